/- Texts of this seat, one behind the other: the plain law, the walks. -/
import Derived.Test.YtpfmnkpmidjfjaaGreatDoorProg
import Derived.WalkKit
import Derived.WalkLawsBesides
import Derived.Outline
import Derived.LoopTactic
import Derived.Lib.Hide
import Derived.Deep.QuietTactic
import Derived.BigQuiet
import Derived.Deep.LoopGhost
import Derived.Deep.DeepCutAuto
import Derived.Deep.CutBlock
import Derived.Deep.RegionHeld3
import Derived.Deep.RegionWith
import Derived.Deep.WholeRow
import Derived.Laws.Rows
import Derived.Laws.Tables
import Derived.Laws.ResultCell
import Derived.StillTailTactics
import Derived.Deep.DeepMust
import Derived.IntWalk
import Derived.KernelRfl
import Derived.Test.YtpfmnkpmidjfjaaGreatDoorEXa
import Derived.RegionTactic
import Derived.Test.YtpfmnkpmidjfjaaGreatDoorEMa
import Derived.Test.YtpfmnkpmidjfjaaGreatDoorEMb
import Derived.Test.YtpfmnkpmidjfjaaGreatDoorEMc
import Derived.Test.YtpfmnkpmidjfjaaGreatDoorEMd
import Derived.Test.YtpfmnkpmidjfjaaGreatDoorEMe
/- BundleExact, walked. -/
namespace Go.Proofs.YtpfmnkpmidjfjaaGreatDoor
open Go.RowKit Go.Lib
open Go.Proofs.YtpfmnkpmidjfjaaGreatDoorW.PrintWords
set_option linter.unusedVariables false
set_option linter.unusedSimpArgs false
theorem row3_all2 {w : World} {g t : Nat} {x0 x1 x2 a0 a1 a2 : Value} (h : w.heap[g]? = some (.cells #[x0, x1, x2] t (0, 0))) : (((w.setCell ⟨g, 0, none⟩ a0).setCell ⟨g, 1, none⟩ a1).setCell ⟨g, 2, none⟩ a2).heap[g]? = some (.cells #[a0, a1, a2] t (0, 0)) :=
 setCell_row _ g 2 _ _ _ a2 (setCell_row _ g 1 _ _ _ a1 (setCell_row _ g 0 _ _ _ a0 h))
theorem Nb.low {b b' : Nat} {w : World} {v : Value} {l : List B.Mail} (h : Nb b w v l) (hb : b' ≤ b) : Nb b' w v l := Kd.N_mono (Kd.N_lower h hb) (fun k hk => Nat.le_trans hb hk)
abbrev Ngb (b g : Nat) (w : World) (v : Value) (l : List B.Mail) : Prop := kMail.N 46 w b (fun k => b ≤ k ∧ k ≠ g) v l
theorem Nb.old {b : Nat} {w : World} {v : Value} {l : List B.Mail} (h : Nb b w v l) (o : Obj) : Ngb b w.heap.size (w.alloc o) v l := Kd.N_alloc (Kd.N_elderB h w.heap.size (Nat.le_refl _)) o
theorem Ngb.nb {b g : Nat} {w : World} {v : Value} {l : List B.Mail} (h : Ngb b g w v l) : Nb b w v l := Kd.N_mono h (fun k hk => hk.1)
theorem Ngb.far3 {b g : Nat} {w : World} {v : Value} {l : List B.Mail} (h : Ngb b g w v l) (x y z : Value) : Nb b (((w.setCell ⟨g, 0, none⟩ x).setCell ⟨g, 1, none⟩ y).setCell ⟨g, 2, none⟩ z) v l :=
 Ngb.nb (Kd.N_far (p := ⟨g, 2, none⟩) (Kd.N_far (p := ⟨g, 1, none⟩) (Kd.N_far (p := ⟨g, 0, none⟩) h (fun k hk => hk.2) x) (fun k hk => hk.2) y) (fun k hk => hk.2) z)
theorem Nb.far3 {b g : Nat} {w : World} {v : Value} {l : List B.Mail} (h : Nb b w v l) (hg : g < b) (x y z : Value) : Nb b (((w.setCell ⟨g, 0, none⟩ x).setCell ⟨g, 1, none⟩ y).setCell ⟨g, 2, none⟩ z) v l :=
 Kd.N_far (p := ⟨g, 2, none⟩) (Kd.N_far (p := ⟨g, 1, none⟩) (Kd.N_far (p := ⟨g, 0, none⟩) h (fun k hk => by show k ≠ g; omega) x) (fun k hk => by show k ≠ g; omega) y) (fun k hk => by show k ≠ g; omega) z
theorem byteEB : ∀ q, q ∈ 5 :: kb.E → q ≠ 24 := by
 intro q hq
 have : kb.E = [] := rfl
 rw [this] at hq
 simp at hq
 subst hq
 decide
theorem R_set3 {α : Type} {d : Kd α} {e : Nat} {w : World} {base : Nat} {v : Value} {xs : List α} (h : d.R e w base (fun _ => True) v xs) {g t : Nat} {cells : Array Value} (a0 a1 a2 : Value) (hr : w.heap[g]? = some (.cells cells t (0, 0))) (ht : ∀ q, q ∈ e :: d.E → q ≠ t) : d.R e (((w.setCell ⟨g, 0, none⟩ a0).setCell ⟨g, 1, none⟩ a1).setCell ⟨g, 2, none⟩ a2) base (fun _ => True) v xs :=
 Kd.R_mono (Kd.R_move (Kd.R_bound h) (fun k hk => by
  have hne : k ≠ g := fun e' => by
   obtain ⟨_, _, _, q, hq, cs, hc⟩ := hk
   rw [e', hr] at hc
   injection hc with hc
   injection hc with _ hc _
   exact ht q hq hc.symm
  rw [Below.heap_setCell _ _ _ _ hne, Below.heap_setCell _ _ _ _ hne, Below.heap_setCell _ _ _ _ hne])) (fun _ _ => trivial)
theorem Fr.on' {b : Nat} {w w' : World} {A : Option Addr} {c : Nat} {l : B.Bs} (h : Fr b w A c l) (hb : Below w.heap.size w w') : Fr b w' A c l := by
 refine ⟨h.bt.on hb, h.new, fun a i hA hi => ?_⟩
 obtain ⟨ad, hA', hc⟩ := h.bt.cells (by omega)
 rw [hA] at hA'
 obtain rfl := Option.some.inj hA'
 have h1 := h.free a i hA hi
 have h2 := hb.block (a.add i).block (World.block_lt_of_cell? _ _ (hc i hi))
 unfold World.frozen? at h1 ⊢
 rw [h2]
 exact h1
theorem over_fr {A : Option Addr} {c : Nat} {l : B.Bs} {b0 : Nat} (w : World) (h : Fr b0 w A c l) (hl : l.length ≤ 100000) :
  Calls Tryz.prog 24 #[.slice A l.length c] w fun e w' => e = .returned (.tuple #[]) ∧ Below b0 w w' := by
 have HF := Aside0.mk h
 clear h
 go_enter Tryz.func24, Tryz.ntmps24
 go_wp2_with (fail)
 go_loopg [2] l.length (fun gf v2 wr => ∃ i : Nat, v2 = .int .i64 (i : Int) ∧ i ≤ l.length ∧ gf + i = l.length ∧ Aside0 (Below b0 w wr ∧ ∀ ad, A = some ad → ∀ j, j < l.length → (∃ z, wr.cell? (ad.add j) = some (.int .u8 z)) ∧ wr.frozen? (ad.add j) = false))
 case atStart =>
  refine ⟨0, rfl, Nat.zero_le _, rfl, ⟨Below.refl _ _, fun ad hA j hj => ⟨?_, HF.out.free ad j hA hj⟩⟩⟩
  obtain ⟨ad', hA', hc⟩ := HF.out.bt.cells (by omega)
  rw [hA] at hA'
  obtain rfl := Option.some.inj hA'
  exact ⟨_, hc j hj⟩
 case round =>
  obtain ⟨i, rfl, hi, hgi, H⟩ := hrel
  obtain ⟨wx, rfl⟩ : ∃ wz : World, wz = wr := ⟨_, rfl⟩
  by_cases hlt : i < l.length
  ·obtain ⟨ad, rfl, _⟩ := HF.out.bt.cells (by omega)
   obtain ⟨⟨z, hz⟩, hfz⟩ := H.out.2 ad rfl i hlt
   have hltI : (i : Int) < (l.length : Int) := by omega
   have hi0 : (0 : Int) ≤ (i : Int) := by omega
   have HNW := Aside0.mk (HF.out.new ad rfl)
   go_wp2_with (fail)
   go_roundg (gk - 1)
   case measure => omega
   case rel =>
    refine ⟨i + 1, by go_num, by omega, by omega, ⟨H.out.1.setCell ?_ _, fun ad' hA j hj => ?_⟩⟩
    ·have := HNW.out.1
     unfold Addr.add
     split <;> exact this
    ·obtain rfl := Option.some.inj hA
     obtain ⟨⟨z2, hz2⟩, hf2⟩ := H.out.2 ad rfl j hj
     refine ⟨?_, by rw [World.frozen?_setCell]; exact hf2⟩
     by_cases he : ad.add i = ad.add j
     ·rw [he]
      exact ⟨_, World.cell?_setCell_same _ _ _ hz2⟩
     ·exact ⟨z2, by rw [World.cell?_setCell_other (h := he)]; exact hz2⟩
  ·have hlt' : ¬ (i : Int) < (l.length : Int) := by omega
   go_wp2_with (fail)
   go_end0
   exact ⟨rfl, H.out.1⟩
set_option maxRecDepth 100000 in
set_option maxHeartbeats 8000000 in
theorem exact_walk (b : B.Bundle) (A : Option Addr) (c : Nat) (t : B.Bs) (A2 : Option Addr) (c2 : Nat) (l : List B.Mail) (A3 : Option Addr) (c3 : Nat) (o n : Int) (w : World) (hb : Bn w b A c) (hr : B.ReachB b) (ht : Bt w A2 c2 t) (hc : l.length ≤ c3) (hx : kMail.C w A3 l.length l) (hn : l.length ≤ 140737488351232) (hf : ∀ m ∈ l, B.Reach m) (hv : Vars w) :
  Calls Tryz.prog 3 #[.agg #[.int .i64 b.origin, .int .i64 b.number, .slice A b.mails.length c], .slice A2 t.length c2, .slice A3 l.length c3, .int .i64 o, .int .i64 n] w fun e w' => e = .returned (.bool true) ∧ Below w.heap.size w w' := by
 have HB := Aside0.mk hb
 have HT := Aside0.mk ht
 have HX := Aside0.mk hx
 have HC := Aside0.mk hc
 have HV := Aside0.mk hv
 have HHV1 := Aside0.mk (show ∀ W, Below w.heap.size w W → Calls Tryz.prog 10 #[.slice A b.mails.length c] W fun e w' => (∃ r : Bool, e = .returned (.bool r) ∧ (r = false → b.mails.length ≤ 20 ∧ ∀ m ∈ b.mails, B.Light 20000 m)) ∧ Below W.heap.size W w' from fun W hW => heavy_any b.mails A c W (hb.on hW).rd hr.n hr.ms)
 have HHV2 := Aside0.mk (show ∀ W, Below w.heap.size w W → Calls Tryz.prog 10 #[.slice A3 l.length c3] W fun e w' => (∃ r : Bool, e = .returned (.bool r) ∧ (r = false → l.length ≤ 20 ∧ ∀ m ∈ l, B.Light 20000 m)) ∧ Below W.heap.size W w' from fun W hW => heavy_any l A3 c3 W (Kd.C_below hx hW) hn hf)
 have HWK := Aside0.mk (show ∀ W, Below w.heap.size w W → Calls Tryz.prog 25 #[] W fun e w' => e = .returned (.bool true) ∧ Below W.heap.size W w' from fun W hW => wakes_any W (HV.out.go hW))
 obtain ⟨w0, hw0⟩ : ∃ w0, w0 = w.alloc (.cells #[.int .i64 b.origin, .int .i64 b.number, .slice A b.mails.length c] 24) := ⟨_, rfl⟩
 have HW0B := Aside0.mk (show Below w.heap.size w w0 by rw [hw0]; exact (Below.refl _ _).alloc (Nat.le_refl _) _)
 have HR := Aside0.mk (show w0.heap[w.heap.size]? = some (.cells #[.int .i64 b.origin, .int .i64 b.number, .slice A b.mails.length c] 24 (0, 0)) by rw [hw0]; exact heap_alloc_new _ _)
 have HW0 := Aside0.mk hw0
 have HW := Aside0.mk (Below.refl w0.heap.size w0)
 clear hb hr ht hc hx hn hf hv hw0
 by_cases ht5 : t.length ≤ 5000
 ·have t1 : decide ((5000 : Int) < (t.length : Int)) = false := by simp; omega
  have t2 : ¬ (5000 : Int) < (t.length : Int) := by omega
  go_enter Tryz.func3, Tryz.ntmps3
  go_upto_region 1 with (fail)
  rw [← HW0.out]
  obtain ⟨b0, b1, b2, g0, g1, g2⟩ := cells3 HR.out
  go_wp2_with (first | (go_at_call 10; (with_reducible refine Calls.mono (HHV1.out _ (HW0B.out.trans ((by first | exact HW.out | exact HW.out.alloc HW.out.size _ : Below w0.heap.size w0 _).mono HW0B.out.size))) ?_); rintro e wq ⟨⟨r, rfl, hr⟩, h⟩; have hwN := (by first | exact HW.out.trans (h.mono HW.out.size) | exact (HW.out.alloc HW.out.size _).trans (h.mono (HW.out.alloc HW.out.size _).size) : Below w0.heap.size w0 wq); have HL1 := Aside0.mk hr; clear hr; clear HW h; have HW := Aside0.mk hwN; (try clear b0 b1 b2 g0 g1 g2); obtain ⟨b0, b1, b2, g0, g1, g2⟩ := cells3 (row_on hwN HR.out); clear hwN; cases r) | (go_at_call 10; (with_reducible refine Calls.mono (HHV2.out _ (HW0B.out.trans ((by first | exact HW.out | exact HW.out.alloc HW.out.size _ : Below w0.heap.size w0 _).mono HW0B.out.size))) ?_); rintro e wq ⟨⟨r, rfl, hr⟩, h⟩; have hwN := (by first | exact HW.out.trans (h.mono HW.out.size) | exact (HW.out.alloc HW.out.size _).trans (h.mono (HW.out.alloc HW.out.size _).size) : Below w0.heap.size w0 wq); have HL2 := Aside0.mk hr; clear hr; clear HW h; have HW := Aside0.mk hwN; (try clear b0 b1 b2 g0 g1 g2); obtain ⟨b0, b1, b2, g0, g1, g2⟩ := cells3 (row_on hwN HR.out); clear hwN; cases r))
  any_goals (go_ret; exact ⟨rfl, HW0B.out.trans (HW.out.mono HW0B.out.size)⟩)
  obtain ⟨wa, rfl⟩ : ∃ wa : World, wa = wq := ⟨_, rfl⟩
  have HWa := Aside0.mk (HW0B.out.trans (HW.out.mono HW0B.out.size))
  have HRa := Aside0.mk (row_on HW.out HR.out)
  have HFB := Aside0.mk (heavy_fit (HL1.out (by trivial)))
  have HFL := Aside0.mk (lights_fit (HL2.out (by trivial)))
  clear HW HR t1 t2 b0 b1 b2 g0 g1 g2 HHV1 HHV2 HL1 HL2
  go_upto_region 3 with (fail)
  go_cut [11, 12, 13] (fun v11 v12 v13 wc => ∃ (g : Nat) (A6 : Option Addr) (c6 : Nat) (A7 : Option Addr) (c7 : Nat) (A8 : Option Addr) (c8 : Nat), v11 = .pointer (some ⟨g, 0, none⟩) ∧ v12 = .slice A7 t.length c7 ∧ v13 = .slice A8 l.length c8 ∧ Aside0 (wc.heap[g]? = some (.cells #[.int .i64 b.origin, .int .i64 b.number, .slice A6 b.mails.length c6] 24 (0, 0))) ∧ Aside0 (Bn wc b A6 c6) ∧ Aside0 (Bt wc A7 c7 t) ∧ Aside0 (l.length ≤ c8 ∧ kMail.C wc A8 l.length l) ∧ Aside0 (Below wa.heap.size wa wc))
  case first =>
   have HS := Aside0.mk (fun W (hW : Below wa.heap.size wa W) => let ⟨x0, x1, x2, _⟩ := cells3 (row_on hW HRa.out); And.intro x0 (And.intro x1 x2))
   have HTM1 := Aside0.mk (fun W (hW : Below wa.heap.size wa W) => twinMails_any b.mails A c W ((HB.out.on (HWa.out.trans (hW.mono HWa.out.size))).rd) HFB.out.n HFB.out.ms)
   have HTM2 := Aside0.mk (fun W (hW : Below wa.heap.size wa W) => twinMails_any l A3 c3 W (Kd.C_below HX.out (HWa.out.trans (hW.mono HWa.out.size))) HFL.out.1 HFL.out.2)
   have HTT := Aside0.mk (fun W (hW : Below wa.heap.size wa W) => twin_any (HT.out.on (HWa.out.trans (hW.mono HWa.out.size))) (by omega))
   refine wp_region_held_drew (S := (fun w' => w'.cell? ⟨w.heap.size, 0, none⟩ = some (.int .i64 b.origin) ∧ w'.cell? ⟨w.heap.size, 1, none⟩ = some (.int .i64 b.number) ∧ w'.cell? ⟨w.heap.size, 2, none⟩ = some (.slice A b.mails.length c))) (by kernel_rfl) ?_ (fun hHeld => ?_)
   ·first | (with_reducible exact HS.out _ (Below.refl _ _).drew) | (with_reducible exact HS.out _ HU4.out) | (with_reducible exact HS.out _ HU3.out) | (with_reducible exact HS.out _ HU2.out) | (with_reducible exact HS.out _ HU1.out) | (with_reducible exact HS.out _ ((((HU4.out).setCell HGE.out _).setCell HGE.out _).setCell HGE.out _)) | (with_reducible exact HS.out _ (HU3.out.alloc HU3.out.size _)) | (with_reducible exact HS.out _ (HU2.out.alloc HU2.out.size _)) | (with_reducible exact HS.out _ (HU1.out.alloc HU1.out.size _)) | (with_reducible exact HS.out _ ((Below.refl wa.heap.size wa).alloc (Nat.le_refl _) _).drew)
   refine wpAnyH_take (i := 0) (oi := _) (v := ?_) rfl (by kernel_rfl) (by kernel_rfl) (by kernel_rfl) (fun _ _ _ h => h) (Or.inl ⟨by rfl, ?_⟩) (by assumption) ?_
   case refine_2 => (intro w hSw; (try dsimp only [List.getElem_toArray, List.getElem_cons_zero, List.getElem_cons_succ] at hSw ⊢); go_simp; (try with_reducible rfl))
   try simp only [Act.put, List.getElem_toArray, List.getElem_cons_zero, List.getElem_cons_succ, List.setIfInBounds_toArray, List.set_cons_zero, List.set_cons_succ]
   refine wpAnyH_take (i := 1) (oi := _) (v := ?_) rfl (by kernel_rfl) (by kernel_rfl) (by kernel_rfl) (fun _ _ _ h => h) (Or.inl ⟨by rfl, ?_⟩) (by assumption) ?_
   case refine_2 => (intro w hSw; (try dsimp only [List.getElem_toArray, List.getElem_cons_zero, List.getElem_cons_succ] at hSw ⊢); go_simp; (try with_reducible rfl))
   try simp only [Act.put, List.getElem_toArray, List.getElem_cons_zero, List.getElem_cons_succ, List.setIfInBounds_toArray, List.set_cons_zero, List.set_cons_succ]
   refine wpAnyH_take (i := 2) (oi := _) (v := ?_) rfl (by kernel_rfl) (by kernel_rfl) (by kernel_rfl) (fun _ _ _ h => h) (Or.inl ⟨by rfl, ?_⟩) (by assumption) ?_
   case refine_2 => (intro w hSw; (try dsimp only [List.getElem_toArray, List.getElem_cons_zero, List.getElem_cons_succ] at hSw ⊢); go_simp; (try with_reducible rfl))
   try simp only [Act.put, List.getElem_toArray, List.getElem_cons_zero, List.getElem_cons_succ, List.setIfInBounds_toArray, List.set_cons_zero, List.set_cons_succ]
   refine wpAnyH_take (i := 3) (oi := _) (v := ?_) rfl (by kernel_rfl) (by kernel_rfl) (by kernel_rfl) (fun _ _ _ h => h) (Or.inl ⟨by rfl, ?_⟩) (by assumption) ?_
   case refine_2 => (intro w hSw; (try dsimp only [List.getElem_toArray, List.getElem_cons_zero, List.getElem_cons_succ] at hSw ⊢); go_simp; (try with_reducible rfl))
   try simp only [Act.put, List.getElem_toArray, List.getElem_cons_zero, List.getElem_cons_succ, List.setIfInBounds_toArray, List.set_cons_zero, List.set_cons_succ]
   refine wpAnyH_take (i := 4) (oi := _) (v := ?_) rfl (by kernel_rfl) (by kernel_rfl) (by kernel_rfl) (fun _ _ _ h => h) (Or.inl ⟨by rfl, ?_⟩) (by assumption) ?_
   case refine_2 => (intro w hSw; (try dsimp only [List.getElem_toArray, List.getElem_cons_zero, List.getElem_cons_succ] at hSw ⊢); go_simp; (try with_reducible rfl))
   try simp only [Act.put, List.getElem_toArray, List.getElem_cons_zero, List.getElem_cons_succ, List.setIfInBounds_toArray, List.set_cons_zero, List.set_cons_succ]
   refine wpAnyH_take (i := 5) (oi := _) (v := ?_) rfl (by kernel_rfl) (by kernel_rfl) (by kernel_rfl) (fun _ _ _ h => h) (Or.inl ⟨by rfl, ?_⟩) (by assumption) ?_
   case refine_2 => (intro w hSw; (try dsimp only [List.getElem_toArray, List.getElem_cons_zero, List.getElem_cons_succ] at hSw ⊢); go_simp; (try with_reducible rfl))
   try simp only [Act.put, List.getElem_toArray, List.getElem_cons_zero, List.getElem_cons_succ, List.setIfInBounds_toArray, List.set_cons_zero, List.set_cons_succ]
   refine wpAnyH_take (i := 8) (oi := _) (v := ?_) rfl (by kernel_rfl) (by kernel_rfl) (by kernel_rfl) (fun _ _ _ h => h) (Or.inl ⟨by rfl, ?_⟩) (by assumption) ?_
   case refine_2 => (intro w hSw; (try dsimp only [List.getElem_toArray, List.getElem_cons_zero, List.getElem_cons_succ] at hSw ⊢); go_simp; (try with_reducible rfl))
   try simp only [Act.put, List.getElem_toArray, List.getElem_cons_zero, List.getElem_cons_succ, List.setIfInBounds_toArray, List.set_cons_zero, List.set_cons_succ]
   refine wpAnyH_take (i := 10) (oi := _) (v := ?_) rfl (by kernel_rfl) (by kernel_rfl) (by kernel_rfl) (fun _ _ _ h => h) (Or.inl ⟨by rfl, ?_⟩) (by assumption) ?_
   case refine_2 => (intro w hSw; (try dsimp only [List.getElem_toArray, List.getElem_cons_zero, List.getElem_cons_succ] at hSw ⊢); go_simp; (try with_reducible rfl))
   try simp only [Act.put, List.getElem_toArray, List.getElem_cons_zero, List.getElem_cons_succ, List.setIfInBounds_toArray, List.set_cons_zero, List.set_cons_succ]
   refine wpAnyH_ready (rs := [6, 12]) (by kernel_rfl) (by simp) ?_
   refine (AllReadyH.cons (o := _) (by simp only [List.getElem?_toArray, List.getElem?_cons_zero, List.getElem?_cons_succ]; rfl) (fun K hK => ?_) (AllReadyH.cons (o := _) (by simp only [List.getElem?_toArray, List.getElem?_cons_zero, List.getElem?_cons_succ]; rfl) (fun K hK => ?_) AllReadyH.nil))
   ·skip
    go_simp
    go_at_call 11
    (with_reducible refine Calls.mono (HTM1.out _ ?_) ?_)
    ·exact (Below.refl wa.heap.size wa).drew
    rintro e u1 ⟨⟨A6, c6, rfl, hN1⟩, h⟩
    have HU1 := Aside0.mk ((Below.refl wa.heap.size wa).drew.trans (h.mono (Nat.le_refl _)))
    have N6 := Aside0.mk (Nb.low hN1 (Nat.le_refl _))
    clear hN1
    clear h
    go_wp2_with (fail)
    refine hK.out _ _ ?_ (fun hHeld2 => ?_)
    ·first | (with_reducible exact HS.out _ (Below.refl _ _).drew) | (with_reducible exact HS.out _ HU4.out) | (with_reducible exact HS.out _ HU3.out) | (with_reducible exact HS.out _ HU2.out) | (with_reducible exact HS.out _ HU1.out) | (with_reducible exact HS.out _ ((((HU4.out).setCell HGE.out _).setCell HGE.out _).setCell HGE.out _)) | (with_reducible exact HS.out _ (HU3.out.alloc HU3.out.size _)) | (with_reducible exact HS.out _ (HU2.out.alloc HU2.out.size _)) | (with_reducible exact HS.out _ (HU1.out.alloc HU1.out.size _)) | (with_reducible exact HS.out _ ((Below.refl wa.heap.size wa).alloc (Nat.le_refl _) _).drew)
    clear hK K hHeld
    have hHeld := hHeld2
    clear hHeld2
    try simp only [Act.put, List.getElem_toArray, List.getElem_cons_zero, List.getElem_cons_succ, List.setIfInBounds_toArray, List.set_cons_zero, List.set_cons_succ]
    refine wpAnyH_take (i := 7) (oi := _) (v := ?_) rfl (by kernel_rfl) (by kernel_rfl) (by kernel_rfl) (fun _ _ _ h => h) (Or.inl ⟨by rfl, ?_⟩) (by assumption) ?_
    case refine_2 => (intro w hSw; (try dsimp only [List.getElem_toArray, List.getElem_cons_zero, List.getElem_cons_succ] at hSw ⊢); go_simp; (try with_reducible rfl))
    try simp only [Act.put, List.getElem_toArray, List.getElem_cons_zero, List.getElem_cons_succ, List.setIfInBounds_toArray, List.set_cons_zero, List.set_cons_succ]
    refine wpAnyH_ready (rs := [9, 12]) (by kernel_rfl) (by simp) ?_
    refine (AllReadyH.cons (o := _) (by simp only [List.getElem?_toArray, List.getElem?_cons_zero, List.getElem?_cons_succ]; rfl) (fun K hK => ?_) (AllReadyH.cons (o := _) (by simp only [List.getElem?_toArray, List.getElem?_cons_zero, List.getElem?_cons_succ]; rfl) (fun K hK => ?_) AllReadyH.nil))
    ·skip
     go_simp
     go_at_call 12
     (with_reducible refine Calls.mono (HTT.out _ ?_) ?_)
     ·exact HU1.out
     rintro e u2 ⟨⟨A7, c7, rfl, hO1⟩, h⟩
     have HU2 := Aside0.mk (HU1.out.trans (h.mono HU1.out.size))
     have N6n := Aside0.mk (Kd.N_below N6.out h)
     clear N6
     have N6 := Aside0.mk N6n.out
     clear N6n
     have O9 := Aside0.mk (hO1.low HU1.out.size)
     clear hO1
     clear h
     go_wp2_with (fail)
     refine hK.out _ _ ?_ (fun hHeld2 => ?_)
     ·first | (with_reducible exact HS.out _ (Below.refl _ _).drew) | (with_reducible exact HS.out _ HU4.out) | (with_reducible exact HS.out _ HU3.out) | (with_reducible exact HS.out _ HU2.out) | (with_reducible exact HS.out _ HU1.out) | (with_reducible exact HS.out _ ((((HU4.out).setCell HGE.out _).setCell HGE.out _).setCell HGE.out _)) | (with_reducible exact HS.out _ (HU3.out.alloc HU3.out.size _)) | (with_reducible exact HS.out _ (HU2.out.alloc HU2.out.size _)) | (with_reducible exact HS.out _ (HU1.out.alloc HU1.out.size _)) | (with_reducible exact HS.out _ ((Below.refl wa.heap.size wa).alloc (Nat.le_refl _) _).drew)
     clear hK K hHeld
     have hHeld := hHeld2
     clear hHeld2
     try simp only [Act.put, List.getElem_toArray, List.getElem_cons_zero, List.getElem_cons_succ, List.setIfInBounds_toArray, List.set_cons_zero, List.set_cons_succ]
     refine wpAnyH_ready (rs := [11, 12]) (by kernel_rfl) (by simp) ?_
     refine (AllReadyH.cons (o := _) (by simp only [List.getElem?_toArray, List.getElem?_cons_zero, List.getElem?_cons_succ]; rfl) (fun K hK => ?_) (AllReadyH.cons (o := _) (by simp only [List.getElem?_toArray, List.getElem?_cons_zero, List.getElem?_cons_succ]; rfl) (fun K hK => ?_) AllReadyH.nil))
     ·skip
      go_simp
      go_at_call 11
      (with_reducible refine Calls.mono (HTM2.out _ ?_) ?_)
      ·exact HU2.out
      rintro e u3 ⟨⟨A8, c8, rfl, hN1⟩, h⟩
      have HU3 := Aside0.mk (HU2.out.trans (h.mono HU2.out.size))
      have N6n := Aside0.mk (Kd.N_below N6.out h)
      clear N6
      have N6 := Aside0.mk N6n.out
      clear N6n
      have O9n := Aside0.mk (O9.out.on (h))
      clear O9
      have O9 := Aside0.mk O9n.out
      clear O9n
      have N11 := Aside0.mk (Nb.low hN1 HU2.out.size)
      clear hN1
      clear h
      go_wp2_with (fail)
      refine hK.out _ _ ?_ (fun hHeld2 => ?_)
      ·first | (with_reducible exact HS.out _ (Below.refl _ _).drew) | (with_reducible exact HS.out _ HU4.out) | (with_reducible exact HS.out _ HU3.out) | (with_reducible exact HS.out _ HU2.out) | (with_reducible exact HS.out _ HU1.out) | (with_reducible exact HS.out _ ((((HU4.out).setCell HGE.out _).setCell HGE.out _).setCell HGE.out _)) | (with_reducible exact HS.out _ (HU3.out.alloc HU3.out.size _)) | (with_reducible exact HS.out _ (HU2.out.alloc HU2.out.size _)) | (with_reducible exact HS.out _ (HU1.out.alloc HU1.out.size _)) | (with_reducible exact HS.out _ ((Below.refl wa.heap.size wa).alloc (Nat.le_refl _) _).drew)
      clear hK K hHeld
      have hHeld := hHeld2
      clear hHeld2
      try simp only [Act.put, List.getElem_toArray, List.getElem_cons_zero, List.getElem_cons_succ, List.setIfInBounds_toArray, List.set_cons_zero, List.set_cons_succ]
      refine wpAnyH_ready (rs := [12]) (by kernel_rfl) (by simp) ?_
      refine (AllReadyH.cons (o := _) (by simp only [List.getElem?_toArray, List.getElem?_cons_zero, List.getElem?_cons_succ]; rfl) (fun K hK => ?_) AllReadyH.nil)
      go_simp
      refine hK.out _ _ ?_ (fun hHeld2 => ?_)
      ·first | (with_reducible exact HS.out _ (Below.refl _ _).drew) | (with_reducible exact HS.out _ HU4.out) | (with_reducible exact HS.out _ HU3.out) | (with_reducible exact HS.out _ HU2.out) | (with_reducible exact HS.out _ HU1.out) | (with_reducible exact HS.out _ ((((HU4.out).setCell HGE.out _).setCell HGE.out _).setCell HGE.out _)) | (with_reducible exact HS.out _ (HU3.out.alloc HU3.out.size _)) | (with_reducible exact HS.out _ (HU2.out.alloc HU2.out.size _)) | (with_reducible exact HS.out _ (HU1.out.alloc HU1.out.size _)) | (with_reducible exact HS.out _ ((Below.refl wa.heap.size wa).alloc (Nat.le_refl _) _).drew)
      clear hK K hHeld
      have hHeld := hHeld2
      clear hHeld2
      try simp only [Act.put, List.getElem_toArray, List.getElem_cons_zero, List.getElem_cons_succ, List.setIfInBounds_toArray, List.set_cons_zero, List.set_cons_succ]
      obtain ⟨u4, hw2⟩ : ∃ u4, u4 = u3.alloc (.cells #[.int .i64 0, .int .i64 0, .slice none 0 0] 24) := ⟨_, rfl⟩
      obtain ⟨g, hgg⟩ : ∃ g, g = u3.heap.size := ⟨_, rfl⟩
      rw [← hw2, ← hgg]
      have HGE := Aside0.mk (show wa.heap.size ≤ g by rw [hgg]; exact HU3.out.size)
      have HZ := Aside0.mk (show u4.heap[g]? = some (.cells #[.int .i64 0, .int .i64 0, .slice none 0 0] 24 (0, 0)) by rw [hw2, hgg]; exact heap_alloc_new _ _)
      have HU4 := Aside0.mk (show Below wa.heap.size wa u4 by rw [hw2]; exact HU3.out.alloc HU3.out.size _)
      have HGL := Aside0.mk (Array.getElem?_eq_some_iff.1 HZ.out).1
      have N6n := Aside0.mk (show Ngb wa.heap.size g u4 (.slice A6 b.mails.length c6) b.mails from by rw [hw2, hgg]; exact Nb.old N6.out _)
      clear N6
      have N6 := Aside0.mk N6n.out
      clear N6n
      have N11n := Aside0.mk (show Ngb wa.heap.size g u4 (.slice A8 l.length c8) l from by rw [hw2, hgg]; exact Nb.old N11.out _)
      clear N11
      have N11 := Aside0.mk N11n.out
      clear N11n
      have O9n := Aside0.mk (O9.out.on ((show Below u3.heap.size u3 u4 by rw [hw2]; exact ((Below.refl _ _).alloc (Nat.le_refl _) _))))
      clear O9
      have O9 := Aside0.mk O9n.out
      clear O9n
      clear hw2 hgg
      obtain ⟨e0, e1, e2, f0, f1, f2⟩ := cells3 HZ.out
      refine wpAnyH_ready (rs := [13]) (by kernel_rfl) (by simp) ?_
      refine (AllReadyH.cons (o := _) (by simp only [List.getElem?_toArray, List.getElem?_cons_zero, List.getElem?_cons_succ]; rfl) (fun K hK => ?_) AllReadyH.nil)
      go_simp
      refine hK.out _ _ ?_ (fun hHeld2 => ?_)
      ·first | (with_reducible exact HS.out _ (Below.refl _ _).drew) | (with_reducible exact HS.out _ HU4.out) | (with_reducible exact HS.out _ HU3.out) | (with_reducible exact HS.out _ HU2.out) | (with_reducible exact HS.out _ HU1.out) | (with_reducible exact HS.out _ ((((HU4.out).setCell HGE.out _).setCell HGE.out _).setCell HGE.out _)) | (with_reducible exact HS.out _ (HU3.out.alloc HU3.out.size _)) | (with_reducible exact HS.out _ (HU2.out.alloc HU2.out.size _)) | (with_reducible exact HS.out _ (HU1.out.alloc HU1.out.size _)) | (with_reducible exact HS.out _ ((Below.refl wa.heap.size wa).alloc (Nat.le_refl _) _).drew)
      clear hK K hHeld
      have hHeld := hHeld2
      clear hHeld2
      try simp only [Act.put, List.getElem_toArray, List.getElem_cons_zero, List.getElem_cons_succ, List.setIfInBounds_toArray, List.set_cons_zero, List.set_cons_succ]
      refine wpAnyH_take (i := 14) (oi := _) (v := ?_) rfl (by kernel_rfl) (by kernel_rfl) (by kernel_rfl) (fun _ _ _ h => h) (Or.inl ⟨by rfl, ?_⟩) (by assumption) ?_
      case refine_2 => (intro w hSw; (try dsimp only [List.getElem_toArray, List.getElem_cons_zero, List.getElem_cons_succ] at hSw ⊢); go_simp; (try with_reducible rfl))
      try simp only [Act.put, List.getElem_toArray, List.getElem_cons_zero, List.getElem_cons_succ, List.setIfInBounds_toArray, List.set_cons_zero, List.set_cons_succ]
      refine wpAnyH_take (i := 15) (oi := _) (v := ?_) rfl (by kernel_rfl) (by kernel_rfl) (by kernel_rfl) (fun _ _ _ h => h) (Or.inl ⟨by rfl, ?_⟩) (by assumption) ?_
      case refine_2 => (intro w hSw; (try dsimp only [List.getElem_toArray, List.getElem_cons_zero, List.getElem_cons_succ] at hSw ⊢); go_simp; (try with_reducible rfl))
      try simp only [Act.put, List.getElem_toArray, List.getElem_cons_zero, List.getElem_cons_succ, List.setIfInBounds_toArray, List.set_cons_zero, List.set_cons_succ]
      refine wpAnyH_done (by kernel_rfl) ?_ _
      have hN6 := Ngb.far3 N6.out (.int .i64 b.origin) (.int .i64 b.number) (.slice A6 b.mails.length c6)
      have hN11 := Ngb.far3 N11.out (.int .i64 b.origin) (.int .i64 b.number) (.slice A6 b.mails.length c6)
      have hO9 := R_set3 O9.out (.int .i64 b.origin) (.int .i64 b.number) (.slice A6 b.mails.length c6) HZ.out byteEB
      have hr6 := Kd.N_reads' hN6
      have hr11 := Kd.N_reads' hN11
      obtain ⟨A7, c7, eO, hb7⟩ := Ow.bt hO9
      injection eO with eO1 eO2 eO3
      subst eO1 eO3
      have HFIN := Aside0.mk (And.intro hr6 (And.intro hr11 hb7))
      clear hN6 hN11 hO9 hr6 hr11 hb7
      go_wp2_with (fail)
      go_meet
      case rel => exact ⟨g, A6, c6, _, _, A8, c8, rfl, rfl, rfl, ⟨row3_all2 HZ.out⟩, ⟨⟨HFIN.out.1.2.1, HFIN.out.1.2.2⟩⟩, ⟨HFIN.out.2.2⟩, ⟨HFIN.out.2.1.2⟩, ⟨((HU4.out.setCell HGE.out _).setCell HGE.out _).setCell HGE.out _⟩⟩
     ·skip
      go_simp
      refine hK.out _ _ ?_ (fun hHeld2 => ?_)
      ·first | (with_reducible exact HS.out _ (Below.refl _ _).drew) | (with_reducible exact HS.out _ HU4.out) | (with_reducible exact HS.out _ HU3.out) | (with_reducible exact HS.out _ HU2.out) | (with_reducible exact HS.out _ HU1.out) | (with_reducible exact HS.out _ ((((HU4.out).setCell HGE.out _).setCell HGE.out _).setCell HGE.out _)) | (with_reducible exact HS.out _ (HU3.out.alloc HU3.out.size _)) | (with_reducible exact HS.out _ (HU2.out.alloc HU2.out.size _)) | (with_reducible exact HS.out _ (HU1.out.alloc HU1.out.size _)) | (with_reducible exact HS.out _ ((Below.refl wa.heap.size wa).alloc (Nat.le_refl _) _).drew)
      clear hK K hHeld
      have hHeld := hHeld2
      clear hHeld2
      try simp only [Act.put, List.getElem_toArray, List.getElem_cons_zero, List.getElem_cons_succ, List.setIfInBounds_toArray, List.set_cons_zero, List.set_cons_succ]
      obtain ⟨u3, hw2⟩ : ∃ u3, u3 = u2.alloc (.cells #[.int .i64 0, .int .i64 0, .slice none 0 0] 24) := ⟨_, rfl⟩
      obtain ⟨g, hgg⟩ : ∃ g, g = u2.heap.size := ⟨_, rfl⟩
      rw [← hw2, ← hgg]
      have HGE := Aside0.mk (show wa.heap.size ≤ g by rw [hgg]; exact HU2.out.size)
      have HZ := Aside0.mk (show u3.heap[g]? = some (.cells #[.int .i64 0, .int .i64 0, .slice none 0 0] 24 (0, 0)) by rw [hw2, hgg]; exact heap_alloc_new _ _)
      have HU3 := Aside0.mk (show Below wa.heap.size wa u3 by rw [hw2]; exact HU2.out.alloc HU2.out.size _)
      have HGL := Aside0.mk (Array.getElem?_eq_some_iff.1 HZ.out).1
      have N6n := Aside0.mk (show Ngb wa.heap.size g u3 (.slice A6 b.mails.length c6) b.mails from by rw [hw2, hgg]; exact Nb.old N6.out _)
      clear N6
      have N6 := Aside0.mk N6n.out
      clear N6n
      have O9n := Aside0.mk (O9.out.on ((show Below u2.heap.size u2 u3 by rw [hw2]; exact ((Below.refl _ _).alloc (Nat.le_refl _) _))))
      clear O9
      have O9 := Aside0.mk O9n.out
      clear O9n
      clear hw2 hgg
      obtain ⟨e0, e1, e2, f0, f1, f2⟩ := cells3 HZ.out
      refine wpAnyH_ready (rs := [11]) (by kernel_rfl) (by simp) ?_
      refine (AllReadyH.cons (o := _) (by simp only [List.getElem?_toArray, List.getElem?_cons_zero, List.getElem?_cons_succ]; rfl) (fun K hK => ?_) AllReadyH.nil)
      go_simp
      go_at_call 11
      (with_reducible refine Calls.mono (HTM2.out _ ?_) ?_)
      ·exact HU3.out
      rintro e u4 ⟨⟨A8, c8, rfl, hN1⟩, h⟩
      have HU4 := Aside0.mk (HU3.out.trans (h.mono HU3.out.size))
      have N6n := Aside0.mk (Kd.N_below N6.out h)
      clear N6
      have N6 := Aside0.mk N6n.out
      clear N6n
      have O9n := Aside0.mk (O9.out.on (h))
      clear O9
      have O9 := Aside0.mk O9n.out
      clear O9n
      have HZn := Aside0.mk (row_on h HZ.out)
      clear HZ f0 f1 f2 e0 e1 e2
      have HZ := Aside0.mk HZn.out
      clear HZn
      obtain ⟨e0, e1, e2, f0, f1, f2⟩ := cells3 HZ.out
      have N11 := Aside0.mk (show Ngb wa.heap.size g u4 (.slice A8 l.length c8) l from Kd.N_mono (Kd.N_lower hN1 HU3.out.size) (fun k hk => ⟨Nat.le_trans HU3.out.size hk, fun e => absurd (Nat.lt_of_lt_of_le HGL.out hk) (by rw [e]; exact Nat.lt_irrefl _)⟩))
      clear hN1
      have HGLn := Aside0.mk (Array.getElem?_eq_some_iff.1 HZ.out).1
      clear HGL
      have HGL := Aside0.mk HGLn.out
      clear HGLn
      clear h
      go_wp2_with (fail)
      refine hK.out _ _ ?_ (fun hHeld2 => ?_)
      ·first | (with_reducible exact HS.out _ (Below.refl _ _).drew) | (with_reducible exact HS.out _ HU4.out) | (with_reducible exact HS.out _ HU3.out) | (with_reducible exact HS.out _ HU2.out) | (with_reducible exact HS.out _ HU1.out) | (with_reducible exact HS.out _ ((((HU4.out).setCell HGE.out _).setCell HGE.out _).setCell HGE.out _)) | (with_reducible exact HS.out _ (HU3.out.alloc HU3.out.size _)) | (with_reducible exact HS.out _ (HU2.out.alloc HU2.out.size _)) | (with_reducible exact HS.out _ (HU1.out.alloc HU1.out.size _)) | (with_reducible exact HS.out _ ((Below.refl wa.heap.size wa).alloc (Nat.le_refl _) _).drew)
      clear hK K hHeld
      have hHeld := hHeld2
      clear hHeld2
      try simp only [Act.put, List.getElem_toArray, List.getElem_cons_zero, List.getElem_cons_succ, List.setIfInBounds_toArray, List.set_cons_zero, List.set_cons_succ]
      refine wpAnyH_ready (rs := [13]) (by kernel_rfl) (by simp) ?_
      refine (AllReadyH.cons (o := _) (by simp only [List.getElem?_toArray, List.getElem?_cons_zero, List.getElem?_cons_succ]; rfl) (fun K hK => ?_) AllReadyH.nil)
      go_simp
      refine hK.out _ _ ?_ (fun hHeld2 => ?_)
      ·first | (with_reducible exact HS.out _ (Below.refl _ _).drew) | (with_reducible exact HS.out _ HU4.out) | (with_reducible exact HS.out _ HU3.out) | (with_reducible exact HS.out _ HU2.out) | (with_reducible exact HS.out _ HU1.out) | (with_reducible exact HS.out _ ((((HU4.out).setCell HGE.out _).setCell HGE.out _).setCell HGE.out _)) | (with_reducible exact HS.out _ (HU3.out.alloc HU3.out.size _)) | (with_reducible exact HS.out _ (HU2.out.alloc HU2.out.size _)) | (with_reducible exact HS.out _ (HU1.out.alloc HU1.out.size _)) | (with_reducible exact HS.out _ ((Below.refl wa.heap.size wa).alloc (Nat.le_refl _) _).drew)
      clear hK K hHeld
      have hHeld := hHeld2
      clear hHeld2
      try simp only [Act.put, List.getElem_toArray, List.getElem_cons_zero, List.getElem_cons_succ, List.setIfInBounds_toArray, List.set_cons_zero, List.set_cons_succ]
      refine wpAnyH_take (i := 14) (oi := _) (v := ?_) rfl (by kernel_rfl) (by kernel_rfl) (by kernel_rfl) (fun _ _ _ h => h) (Or.inl ⟨by rfl, ?_⟩) (by assumption) ?_
      case refine_2 => (intro w hSw; (try dsimp only [List.getElem_toArray, List.getElem_cons_zero, List.getElem_cons_succ] at hSw ⊢); go_simp; (try with_reducible rfl))
      try simp only [Act.put, List.getElem_toArray, List.getElem_cons_zero, List.getElem_cons_succ, List.setIfInBounds_toArray, List.set_cons_zero, List.set_cons_succ]
      refine wpAnyH_take (i := 15) (oi := _) (v := ?_) rfl (by kernel_rfl) (by kernel_rfl) (by kernel_rfl) (fun _ _ _ h => h) (Or.inl ⟨by rfl, ?_⟩) (by assumption) ?_
      case refine_2 => (intro w hSw; (try dsimp only [List.getElem_toArray, List.getElem_cons_zero, List.getElem_cons_succ] at hSw ⊢); go_simp; (try with_reducible rfl))
      try simp only [Act.put, List.getElem_toArray, List.getElem_cons_zero, List.getElem_cons_succ, List.setIfInBounds_toArray, List.set_cons_zero, List.set_cons_succ]
      refine wpAnyH_done (by kernel_rfl) ?_ _
      have hN6 := Ngb.far3 N6.out (.int .i64 b.origin) (.int .i64 b.number) (.slice A6 b.mails.length c6)
      have hN11 := Ngb.far3 N11.out (.int .i64 b.origin) (.int .i64 b.number) (.slice A6 b.mails.length c6)
      have hO9 := R_set3 O9.out (.int .i64 b.origin) (.int .i64 b.number) (.slice A6 b.mails.length c6) HZ.out byteEB
      have hr6 := Kd.N_reads' hN6
      have hr11 := Kd.N_reads' hN11
      obtain ⟨A7, c7, eO, hb7⟩ := Ow.bt hO9
      injection eO with eO1 eO2 eO3
      subst eO1 eO3
      have HFIN := Aside0.mk (And.intro hr6 (And.intro hr11 hb7))
      clear hN6 hN11 hO9 hr6 hr11 hb7
      go_wp2_with (fail)
      go_meet
      case rel => exact ⟨g, A6, c6, _, _, A8, c8, rfl, rfl, rfl, ⟨row3_all2 HZ.out⟩, ⟨⟨HFIN.out.1.2.1, HFIN.out.1.2.2⟩⟩, ⟨HFIN.out.2.2⟩, ⟨HFIN.out.2.1.2⟩, ⟨((HU4.out.setCell HGE.out _).setCell HGE.out _).setCell HGE.out _⟩⟩
    ·skip
     go_simp
     refine hK.out _ _ ?_ (fun hHeld2 => ?_)
     ·first | (with_reducible exact HS.out _ (Below.refl _ _).drew) | (with_reducible exact HS.out _ HU4.out) | (with_reducible exact HS.out _ HU3.out) | (with_reducible exact HS.out _ HU2.out) | (with_reducible exact HS.out _ HU1.out) | (with_reducible exact HS.out _ ((((HU4.out).setCell HGE.out _).setCell HGE.out _).setCell HGE.out _)) | (with_reducible exact HS.out _ (HU3.out.alloc HU3.out.size _)) | (with_reducible exact HS.out _ (HU2.out.alloc HU2.out.size _)) | (with_reducible exact HS.out _ (HU1.out.alloc HU1.out.size _)) | (with_reducible exact HS.out _ ((Below.refl wa.heap.size wa).alloc (Nat.le_refl _) _).drew)
     clear hK K hHeld
     have hHeld := hHeld2
     clear hHeld2
     try simp only [Act.put, List.getElem_toArray, List.getElem_cons_zero, List.getElem_cons_succ, List.setIfInBounds_toArray, List.set_cons_zero, List.set_cons_succ]
     obtain ⟨u2, hw2⟩ : ∃ u2, u2 = u1.alloc (.cells #[.int .i64 0, .int .i64 0, .slice none 0 0] 24) := ⟨_, rfl⟩
     obtain ⟨g, hgg⟩ : ∃ g, g = u1.heap.size := ⟨_, rfl⟩
     rw [← hw2, ← hgg]
     have HGE := Aside0.mk (show wa.heap.size ≤ g by rw [hgg]; exact HU1.out.size)
     have HZ := Aside0.mk (show u2.heap[g]? = some (.cells #[.int .i64 0, .int .i64 0, .slice none 0 0] 24 (0, 0)) by rw [hw2, hgg]; exact heap_alloc_new _ _)
     have HU2 := Aside0.mk (show Below wa.heap.size wa u2 by rw [hw2]; exact HU1.out.alloc HU1.out.size _)
     have HGL := Aside0.mk (Array.getElem?_eq_some_iff.1 HZ.out).1
     have N6n := Aside0.mk (show Ngb wa.heap.size g u2 (.slice A6 b.mails.length c6) b.mails from by rw [hw2, hgg]; exact Nb.old N6.out _)
     clear N6
     have N6 := Aside0.mk N6n.out
     clear N6n
     clear hw2 hgg
     obtain ⟨e0, e1, e2, f0, f1, f2⟩ := cells3 HZ.out
     refine wpAnyH_ready (rs := [9]) (by kernel_rfl) (by simp) ?_
     refine (AllReadyH.cons (o := _) (by simp only [List.getElem?_toArray, List.getElem?_cons_zero, List.getElem?_cons_succ]; rfl) (fun K hK => ?_) AllReadyH.nil)
     go_simp
     go_at_call 12
     (with_reducible refine Calls.mono (HTT.out _ ?_) ?_)
     ·exact HU2.out
     rintro e u3 ⟨⟨A7, c7, rfl, hO1⟩, h⟩
     have HU3 := Aside0.mk (HU2.out.trans (h.mono HU2.out.size))
     have N6n := Aside0.mk (Kd.N_below N6.out h)
     clear N6
     have N6 := Aside0.mk N6n.out
     clear N6n
     have HZn := Aside0.mk (row_on h HZ.out)
     clear HZ f0 f1 f2 e0 e1 e2
     have HZ := Aside0.mk HZn.out
     clear HZn
     obtain ⟨e0, e1, e2, f0, f1, f2⟩ := cells3 HZ.out
     have O9 := Aside0.mk (hO1.low HU2.out.size)
     clear hO1
     have HGLn := Aside0.mk (Array.getElem?_eq_some_iff.1 HZ.out).1
     clear HGL
     have HGL := Aside0.mk HGLn.out
     clear HGLn
     clear h
     go_wp2_with (fail)
     refine hK.out _ _ ?_ (fun hHeld2 => ?_)
     ·first | (with_reducible exact HS.out _ (Below.refl _ _).drew) | (with_reducible exact HS.out _ HU4.out) | (with_reducible exact HS.out _ HU3.out) | (with_reducible exact HS.out _ HU2.out) | (with_reducible exact HS.out _ HU1.out) | (with_reducible exact HS.out _ ((((HU4.out).setCell HGE.out _).setCell HGE.out _).setCell HGE.out _)) | (with_reducible exact HS.out _ (HU3.out.alloc HU3.out.size _)) | (with_reducible exact HS.out _ (HU2.out.alloc HU2.out.size _)) | (with_reducible exact HS.out _ (HU1.out.alloc HU1.out.size _)) | (with_reducible exact HS.out _ ((Below.refl wa.heap.size wa).alloc (Nat.le_refl _) _).drew)
     clear hK K hHeld
     have hHeld := hHeld2
     clear hHeld2
     try simp only [Act.put, List.getElem_toArray, List.getElem_cons_zero, List.getElem_cons_succ, List.setIfInBounds_toArray, List.set_cons_zero, List.set_cons_succ]
     refine wpAnyH_ready (rs := [11]) (by kernel_rfl) (by simp) ?_
     refine (AllReadyH.cons (o := _) (by simp only [List.getElem?_toArray, List.getElem?_cons_zero, List.getElem?_cons_succ]; rfl) (fun K hK => ?_) AllReadyH.nil)
     go_simp
     go_at_call 11
     (with_reducible refine Calls.mono (HTM2.out _ ?_) ?_)
     ·exact HU3.out
     rintro e u4 ⟨⟨A8, c8, rfl, hN1⟩, h⟩
     have HU4 := Aside0.mk (HU3.out.trans (h.mono HU3.out.size))
     have N6n := Aside0.mk (Kd.N_below N6.out h)
     clear N6
     have N6 := Aside0.mk N6n.out
     clear N6n
     have O9n := Aside0.mk (O9.out.on (h))
     clear O9
     have O9 := Aside0.mk O9n.out
     clear O9n
     have HZn := Aside0.mk (row_on h HZ.out)
     clear HZ f0 f1 f2 e0 e1 e2
     have HZ := Aside0.mk HZn.out
     clear HZn
     obtain ⟨e0, e1, e2, f0, f1, f2⟩ := cells3 HZ.out
     have N11 := Aside0.mk (show Ngb wa.heap.size g u4 (.slice A8 l.length c8) l from Kd.N_mono (Kd.N_lower hN1 HU3.out.size) (fun k hk => ⟨Nat.le_trans HU3.out.size hk, fun e => absurd (Nat.lt_of_lt_of_le HGL.out hk) (by rw [e]; exact Nat.lt_irrefl _)⟩))
     clear hN1
     have HGLn := Aside0.mk (Array.getElem?_eq_some_iff.1 HZ.out).1
     clear HGL
     have HGL := Aside0.mk HGLn.out
     clear HGLn
     clear h
     go_wp2_with (fail)
     refine hK.out _ _ ?_ (fun hHeld2 => ?_)
     ·first | (with_reducible exact HS.out _ (Below.refl _ _).drew) | (with_reducible exact HS.out _ HU4.out) | (with_reducible exact HS.out _ HU3.out) | (with_reducible exact HS.out _ HU2.out) | (with_reducible exact HS.out _ HU1.out) | (with_reducible exact HS.out _ ((((HU4.out).setCell HGE.out _).setCell HGE.out _).setCell HGE.out _)) | (with_reducible exact HS.out _ (HU3.out.alloc HU3.out.size _)) | (with_reducible exact HS.out _ (HU2.out.alloc HU2.out.size _)) | (with_reducible exact HS.out _ (HU1.out.alloc HU1.out.size _)) | (with_reducible exact HS.out _ ((Below.refl wa.heap.size wa).alloc (Nat.le_refl _) _).drew)
     clear hK K hHeld
     have hHeld := hHeld2
     clear hHeld2
     try simp only [Act.put, List.getElem_toArray, List.getElem_cons_zero, List.getElem_cons_succ, List.setIfInBounds_toArray, List.set_cons_zero, List.set_cons_succ]
     refine wpAnyH_ready (rs := [13]) (by kernel_rfl) (by simp) ?_
     refine (AllReadyH.cons (o := _) (by simp only [List.getElem?_toArray, List.getElem?_cons_zero, List.getElem?_cons_succ]; rfl) (fun K hK => ?_) AllReadyH.nil)
     go_simp
     refine hK.out _ _ ?_ (fun hHeld2 => ?_)
     ·first | (with_reducible exact HS.out _ (Below.refl _ _).drew) | (with_reducible exact HS.out _ HU4.out) | (with_reducible exact HS.out _ HU3.out) | (with_reducible exact HS.out _ HU2.out) | (with_reducible exact HS.out _ HU1.out) | (with_reducible exact HS.out _ ((((HU4.out).setCell HGE.out _).setCell HGE.out _).setCell HGE.out _)) | (with_reducible exact HS.out _ (HU3.out.alloc HU3.out.size _)) | (with_reducible exact HS.out _ (HU2.out.alloc HU2.out.size _)) | (with_reducible exact HS.out _ (HU1.out.alloc HU1.out.size _)) | (with_reducible exact HS.out _ ((Below.refl wa.heap.size wa).alloc (Nat.le_refl _) _).drew)
     clear hK K hHeld
     have hHeld := hHeld2
     clear hHeld2
     try simp only [Act.put, List.getElem_toArray, List.getElem_cons_zero, List.getElem_cons_succ, List.setIfInBounds_toArray, List.set_cons_zero, List.set_cons_succ]
     refine wpAnyH_take (i := 14) (oi := _) (v := ?_) rfl (by kernel_rfl) (by kernel_rfl) (by kernel_rfl) (fun _ _ _ h => h) (Or.inl ⟨by rfl, ?_⟩) (by assumption) ?_
     case refine_2 => (intro w hSw; (try dsimp only [List.getElem_toArray, List.getElem_cons_zero, List.getElem_cons_succ] at hSw ⊢); go_simp; (try with_reducible rfl))
     try simp only [Act.put, List.getElem_toArray, List.getElem_cons_zero, List.getElem_cons_succ, List.setIfInBounds_toArray, List.set_cons_zero, List.set_cons_succ]
     refine wpAnyH_take (i := 15) (oi := _) (v := ?_) rfl (by kernel_rfl) (by kernel_rfl) (by kernel_rfl) (fun _ _ _ h => h) (Or.inl ⟨by rfl, ?_⟩) (by assumption) ?_
     case refine_2 => (intro w hSw; (try dsimp only [List.getElem_toArray, List.getElem_cons_zero, List.getElem_cons_succ] at hSw ⊢); go_simp; (try with_reducible rfl))
     try simp only [Act.put, List.getElem_toArray, List.getElem_cons_zero, List.getElem_cons_succ, List.setIfInBounds_toArray, List.set_cons_zero, List.set_cons_succ]
     refine wpAnyH_done (by kernel_rfl) ?_ _
     have hN6 := Ngb.far3 N6.out (.int .i64 b.origin) (.int .i64 b.number) (.slice A6 b.mails.length c6)
     have hN11 := Ngb.far3 N11.out (.int .i64 b.origin) (.int .i64 b.number) (.slice A6 b.mails.length c6)
     have hO9 := R_set3 O9.out (.int .i64 b.origin) (.int .i64 b.number) (.slice A6 b.mails.length c6) HZ.out byteEB
     have hr6 := Kd.N_reads' hN6
     have hr11 := Kd.N_reads' hN11
     obtain ⟨A7, c7, eO, hb7⟩ := Ow.bt hO9
     injection eO with eO1 eO2 eO3
     subst eO1 eO3
     have HFIN := Aside0.mk (And.intro hr6 (And.intro hr11 hb7))
     clear hN6 hN11 hO9 hr6 hr11 hb7
     go_wp2_with (fail)
     go_meet
     case rel => exact ⟨g, A6, c6, _, _, A8, c8, rfl, rfl, rfl, ⟨row3_all2 HZ.out⟩, ⟨⟨HFIN.out.1.2.1, HFIN.out.1.2.2⟩⟩, ⟨HFIN.out.2.2⟩, ⟨HFIN.out.2.1.2⟩, ⟨((HU4.out.setCell HGE.out _).setCell HGE.out _).setCell HGE.out _⟩⟩
   ·skip
    go_simp
    refine hK.out _ _ ?_ (fun hHeld2 => ?_)
    ·first | (with_reducible exact HS.out _ (Below.refl _ _).drew) | (with_reducible exact HS.out _ HU4.out) | (with_reducible exact HS.out _ HU3.out) | (with_reducible exact HS.out _ HU2.out) | (with_reducible exact HS.out _ HU1.out) | (with_reducible exact HS.out _ ((((HU4.out).setCell HGE.out _).setCell HGE.out _).setCell HGE.out _)) | (with_reducible exact HS.out _ (HU3.out.alloc HU3.out.size _)) | (with_reducible exact HS.out _ (HU2.out.alloc HU2.out.size _)) | (with_reducible exact HS.out _ (HU1.out.alloc HU1.out.size _)) | (with_reducible exact HS.out _ ((Below.refl wa.heap.size wa).alloc (Nat.le_refl _) _).drew)
    clear hK K hHeld
    have hHeld := hHeld2
    clear hHeld2
    try simp only [Act.put, List.getElem_toArray, List.getElem_cons_zero, List.getElem_cons_succ, List.setIfInBounds_toArray, List.set_cons_zero, List.set_cons_succ]
    obtain ⟨u1, hw2⟩ : ∃ u1, u1 = (wa.alloc (.cells #[.int .i64 0, .int .i64 0, .slice none 0 0] 24)).drew := ⟨_, rfl⟩
    obtain ⟨g, hgg⟩ : ∃ g, g = wa.heap.size := ⟨_, rfl⟩
    rw [← hw2, ← hgg]
    have HGE := Aside0.mk (show wa.heap.size ≤ g by rw [hgg]; exact (Nat.le_refl _))
    have HZ := Aside0.mk (show u1.heap[g]? = some (.cells #[.int .i64 0, .int .i64 0, .slice none 0 0] 24 (0, 0)) by rw [hw2, hgg]; exact heap_alloc_new _ _)
    have HU1 := Aside0.mk (show Below wa.heap.size wa u1 by rw [hw2]; exact ((Below.refl wa.heap.size wa).alloc (Nat.le_refl _) _).drew)
    have HGL := Aside0.mk (Array.getElem?_eq_some_iff.1 HZ.out).1
    clear hw2 hgg
    obtain ⟨e0, e1, e2, f0, f1, f2⟩ := cells3 HZ.out
    refine wpAnyH_ready (rs := [6]) (by kernel_rfl) (by simp) ?_
    refine (AllReadyH.cons (o := _) (by simp only [List.getElem?_toArray, List.getElem?_cons_zero, List.getElem?_cons_succ]; rfl) (fun K hK => ?_) AllReadyH.nil)
    go_simp
    go_at_call 11
    (with_reducible refine Calls.mono (HTM1.out _ ?_) ?_)
    ·exact HU1.out
    rintro e u2 ⟨⟨A6, c6, rfl, hN1⟩, h⟩
    have HU2 := Aside0.mk (HU1.out.trans (h.mono HU1.out.size))
    have HZn := Aside0.mk (row_on h HZ.out)
    clear HZ f0 f1 f2 e0 e1 e2
    have HZ := Aside0.mk HZn.out
    clear HZn
    obtain ⟨e0, e1, e2, f0, f1, f2⟩ := cells3 HZ.out
    have N6 := Aside0.mk (show Ngb wa.heap.size g u2 (.slice A6 b.mails.length c6) b.mails from Kd.N_mono (Kd.N_lower hN1 HU1.out.size) (fun k hk => ⟨Nat.le_trans HU1.out.size hk, fun e => absurd (Nat.lt_of_lt_of_le HGL.out hk) (by rw [e]; exact Nat.lt_irrefl _)⟩))
    clear hN1
    have HGLn := Aside0.mk (Array.getElem?_eq_some_iff.1 HZ.out).1
    clear HGL
    have HGL := Aside0.mk HGLn.out
    clear HGLn
    clear h
    go_wp2_with (fail)
    refine hK.out _ _ ?_ (fun hHeld2 => ?_)
    ·first | (with_reducible exact HS.out _ (Below.refl _ _).drew) | (with_reducible exact HS.out _ HU4.out) | (with_reducible exact HS.out _ HU3.out) | (with_reducible exact HS.out _ HU2.out) | (with_reducible exact HS.out _ HU1.out) | (with_reducible exact HS.out _ ((((HU4.out).setCell HGE.out _).setCell HGE.out _).setCell HGE.out _)) | (with_reducible exact HS.out _ (HU3.out.alloc HU3.out.size _)) | (with_reducible exact HS.out _ (HU2.out.alloc HU2.out.size _)) | (with_reducible exact HS.out _ (HU1.out.alloc HU1.out.size _)) | (with_reducible exact HS.out _ ((Below.refl wa.heap.size wa).alloc (Nat.le_refl _) _).drew)
    clear hK K hHeld
    have hHeld := hHeld2
    clear hHeld2
    try simp only [Act.put, List.getElem_toArray, List.getElem_cons_zero, List.getElem_cons_succ, List.setIfInBounds_toArray, List.set_cons_zero, List.set_cons_succ]
    refine wpAnyH_take (i := 7) (oi := _) (v := ?_) rfl (by kernel_rfl) (by kernel_rfl) (by kernel_rfl) (fun _ _ _ h => h) (Or.inl ⟨by rfl, ?_⟩) (by assumption) ?_
    case refine_2 => (intro w hSw; (try dsimp only [List.getElem_toArray, List.getElem_cons_zero, List.getElem_cons_succ] at hSw ⊢); go_simp; (try with_reducible rfl))
    try simp only [Act.put, List.getElem_toArray, List.getElem_cons_zero, List.getElem_cons_succ, List.setIfInBounds_toArray, List.set_cons_zero, List.set_cons_succ]
    refine wpAnyH_ready (rs := [9]) (by kernel_rfl) (by simp) ?_
    refine (AllReadyH.cons (o := _) (by simp only [List.getElem?_toArray, List.getElem?_cons_zero, List.getElem?_cons_succ]; rfl) (fun K hK => ?_) AllReadyH.nil)
    go_simp
    go_at_call 12
    (with_reducible refine Calls.mono (HTT.out _ ?_) ?_)
    ·exact HU2.out
    rintro e u3 ⟨⟨A7, c7, rfl, hO1⟩, h⟩
    have HU3 := Aside0.mk (HU2.out.trans (h.mono HU2.out.size))
    have N6n := Aside0.mk (Kd.N_below N6.out h)
    clear N6
    have N6 := Aside0.mk N6n.out
    clear N6n
    have HZn := Aside0.mk (row_on h HZ.out)
    clear HZ f0 f1 f2 e0 e1 e2
    have HZ := Aside0.mk HZn.out
    clear HZn
    obtain ⟨e0, e1, e2, f0, f1, f2⟩ := cells3 HZ.out
    have O9 := Aside0.mk (hO1.low HU2.out.size)
    clear hO1
    have HGLn := Aside0.mk (Array.getElem?_eq_some_iff.1 HZ.out).1
    clear HGL
    have HGL := Aside0.mk HGLn.out
    clear HGLn
    clear h
    go_wp2_with (fail)
    refine hK.out _ _ ?_ (fun hHeld2 => ?_)
    ·first | (with_reducible exact HS.out _ (Below.refl _ _).drew) | (with_reducible exact HS.out _ HU4.out) | (with_reducible exact HS.out _ HU3.out) | (with_reducible exact HS.out _ HU2.out) | (with_reducible exact HS.out _ HU1.out) | (with_reducible exact HS.out _ ((((HU4.out).setCell HGE.out _).setCell HGE.out _).setCell HGE.out _)) | (with_reducible exact HS.out _ (HU3.out.alloc HU3.out.size _)) | (with_reducible exact HS.out _ (HU2.out.alloc HU2.out.size _)) | (with_reducible exact HS.out _ (HU1.out.alloc HU1.out.size _)) | (with_reducible exact HS.out _ ((Below.refl wa.heap.size wa).alloc (Nat.le_refl _) _).drew)
    clear hK K hHeld
    have hHeld := hHeld2
    clear hHeld2
    try simp only [Act.put, List.getElem_toArray, List.getElem_cons_zero, List.getElem_cons_succ, List.setIfInBounds_toArray, List.set_cons_zero, List.set_cons_succ]
    refine wpAnyH_ready (rs := [11]) (by kernel_rfl) (by simp) ?_
    refine (AllReadyH.cons (o := _) (by simp only [List.getElem?_toArray, List.getElem?_cons_zero, List.getElem?_cons_succ]; rfl) (fun K hK => ?_) AllReadyH.nil)
    go_simp
    go_at_call 11
    (with_reducible refine Calls.mono (HTM2.out _ ?_) ?_)
    ·exact HU3.out
    rintro e u4 ⟨⟨A8, c8, rfl, hN1⟩, h⟩
    have HU4 := Aside0.mk (HU3.out.trans (h.mono HU3.out.size))
    have N6n := Aside0.mk (Kd.N_below N6.out h)
    clear N6
    have N6 := Aside0.mk N6n.out
    clear N6n
    have O9n := Aside0.mk (O9.out.on (h))
    clear O9
    have O9 := Aside0.mk O9n.out
    clear O9n
    have HZn := Aside0.mk (row_on h HZ.out)
    clear HZ f0 f1 f2 e0 e1 e2
    have HZ := Aside0.mk HZn.out
    clear HZn
    obtain ⟨e0, e1, e2, f0, f1, f2⟩ := cells3 HZ.out
    have N11 := Aside0.mk (show Ngb wa.heap.size g u4 (.slice A8 l.length c8) l from Kd.N_mono (Kd.N_lower hN1 HU3.out.size) (fun k hk => ⟨Nat.le_trans HU3.out.size hk, fun e => absurd (Nat.lt_of_lt_of_le HGL.out hk) (by rw [e]; exact Nat.lt_irrefl _)⟩))
    clear hN1
    have HGLn := Aside0.mk (Array.getElem?_eq_some_iff.1 HZ.out).1
    clear HGL
    have HGL := Aside0.mk HGLn.out
    clear HGLn
    clear h
    go_wp2_with (fail)
    refine hK.out _ _ ?_ (fun hHeld2 => ?_)
    ·first | (with_reducible exact HS.out _ (Below.refl _ _).drew) | (with_reducible exact HS.out _ HU4.out) | (with_reducible exact HS.out _ HU3.out) | (with_reducible exact HS.out _ HU2.out) | (with_reducible exact HS.out _ HU1.out) | (with_reducible exact HS.out _ ((((HU4.out).setCell HGE.out _).setCell HGE.out _).setCell HGE.out _)) | (with_reducible exact HS.out _ (HU3.out.alloc HU3.out.size _)) | (with_reducible exact HS.out _ (HU2.out.alloc HU2.out.size _)) | (with_reducible exact HS.out _ (HU1.out.alloc HU1.out.size _)) | (with_reducible exact HS.out _ ((Below.refl wa.heap.size wa).alloc (Nat.le_refl _) _).drew)
    clear hK K hHeld
    have hHeld := hHeld2
    clear hHeld2
    try simp only [Act.put, List.getElem_toArray, List.getElem_cons_zero, List.getElem_cons_succ, List.setIfInBounds_toArray, List.set_cons_zero, List.set_cons_succ]
    refine wpAnyH_ready (rs := [13]) (by kernel_rfl) (by simp) ?_
    refine (AllReadyH.cons (o := _) (by simp only [List.getElem?_toArray, List.getElem?_cons_zero, List.getElem?_cons_succ]; rfl) (fun K hK => ?_) AllReadyH.nil)
    go_simp
    refine hK.out _ _ ?_ (fun hHeld2 => ?_)
    ·first | (with_reducible exact HS.out _ (Below.refl _ _).drew) | (with_reducible exact HS.out _ HU4.out) | (with_reducible exact HS.out _ HU3.out) | (with_reducible exact HS.out _ HU2.out) | (with_reducible exact HS.out _ HU1.out) | (with_reducible exact HS.out _ ((((HU4.out).setCell HGE.out _).setCell HGE.out _).setCell HGE.out _)) | (with_reducible exact HS.out _ (HU3.out.alloc HU3.out.size _)) | (with_reducible exact HS.out _ (HU2.out.alloc HU2.out.size _)) | (with_reducible exact HS.out _ (HU1.out.alloc HU1.out.size _)) | (with_reducible exact HS.out _ ((Below.refl wa.heap.size wa).alloc (Nat.le_refl _) _).drew)
    clear hK K hHeld
    have hHeld := hHeld2
    clear hHeld2
    try simp only [Act.put, List.getElem_toArray, List.getElem_cons_zero, List.getElem_cons_succ, List.setIfInBounds_toArray, List.set_cons_zero, List.set_cons_succ]
    refine wpAnyH_take (i := 14) (oi := _) (v := ?_) rfl (by kernel_rfl) (by kernel_rfl) (by kernel_rfl) (fun _ _ _ h => h) (Or.inl ⟨by rfl, ?_⟩) (by assumption) ?_
    case refine_2 => (intro w hSw; (try dsimp only [List.getElem_toArray, List.getElem_cons_zero, List.getElem_cons_succ] at hSw ⊢); go_simp; (try with_reducible rfl))
    try simp only [Act.put, List.getElem_toArray, List.getElem_cons_zero, List.getElem_cons_succ, List.setIfInBounds_toArray, List.set_cons_zero, List.set_cons_succ]
    refine wpAnyH_take (i := 15) (oi := _) (v := ?_) rfl (by kernel_rfl) (by kernel_rfl) (by kernel_rfl) (fun _ _ _ h => h) (Or.inl ⟨by rfl, ?_⟩) (by assumption) ?_
    case refine_2 => (intro w hSw; (try dsimp only [List.getElem_toArray, List.getElem_cons_zero, List.getElem_cons_succ] at hSw ⊢); go_simp; (try with_reducible rfl))
    try simp only [Act.put, List.getElem_toArray, List.getElem_cons_zero, List.getElem_cons_succ, List.setIfInBounds_toArray, List.set_cons_zero, List.set_cons_succ]
    refine wpAnyH_done (by kernel_rfl) ?_ _
    have hN6 := Ngb.far3 N6.out (.int .i64 b.origin) (.int .i64 b.number) (.slice A6 b.mails.length c6)
    have hN11 := Ngb.far3 N11.out (.int .i64 b.origin) (.int .i64 b.number) (.slice A6 b.mails.length c6)
    have hO9 := R_set3 O9.out (.int .i64 b.origin) (.int .i64 b.number) (.slice A6 b.mails.length c6) HZ.out byteEB
    have hr6 := Kd.N_reads' hN6
    have hr11 := Kd.N_reads' hN11
    obtain ⟨A7, c7, eO, hb7⟩ := Ow.bt hO9
    injection eO with eO1 eO2 eO3
    subst eO1 eO3
    have HFIN := Aside0.mk (And.intro hr6 (And.intro hr11 hb7))
    clear hN6 hN11 hO9 hr6 hr11 hb7
    go_wp2_with (fail)
    go_meet
    case rel => exact ⟨g, A6, c6, _, _, A8, c8, rfl, rfl, rfl, ⟨row3_all2 HZ.out⟩, ⟨⟨HFIN.out.1.2.1, HFIN.out.1.2.2⟩⟩, ⟨HFIN.out.2.2⟩, ⟨HFIN.out.2.1.2⟩, ⟨((HU4.out.setCell HGE.out _).setCell HGE.out _).setCell HGE.out _⟩⟩
  case rest =>
  obtain ⟨g, A6, c6, A7, c7, A8, c8, rfl, rfl, rfl, HRG, HBc, HTc, HLc, HWc⟩ := hcut
  obtain ⟨v0, rfl⟩ : ∃ wz : World, wz = wc := ⟨_, rfl⟩
  apply_assumption
  have HWv := Aside0.mk (HWa.out.trans (HWc.out.mono HWa.out.size))
  have HRB := Aside0.mk (row_on HWc.out HRa.out)
  have HB0 := Aside0.mk (HB.out.on HWv.out)
  have HT0 := Aside0.mk (HT.out.on HWv.out)
  have HX0 := Aside0.mk (Kd.C_below HX.out HWv.out)
  have HVv := Aside0.mk (HV.out.go HWv.out)
  have HWK0 := Aside0.mk (fun W (hW : Below v0.heap.size v0 W) => HWK.out W (HWv.out.trans (hW.mono HWv.out.size)))
  have HV0 := Aside0.mk (Below.refl v0.heap.size v0)
  obtain ⟨X1, X2, hX⟩ : ∃ X1 X2, B.bytes b = (X1, X2) := ⟨_, _, rfl⟩
  have hxl : X1.length ≤ 4096 := by have := B.bytes_len b; rw [hX] at this; exact this
  have HBY := Aside0.mk (show ∀ W, Below v0.heap.size v0 W → Calls Tryz.prog 13 #[.agg #[.int .i64 b.origin, .int .i64 b.number, .slice A6 b.mails.length c6]] W fun e w' => (∃ A1 c1, e = .returned (.tuple #[.slice A1 X1.length c1, .int .i64 X2]) ∧ Fr W.heap.size w' A1 c1 X1) ∧ Below W.heap.size W w' from fun W hW => by
   have h := bytes_any b A6 c6 W (HBc.out.on hW) HFB.out (HVv.out.go hW)
   rw [hX] at h
   exact h)
  have HRBY := Aside0.mk (show ∀ W, Below v0.heap.size v0 W → Calls Tryz.prog 14 #[.agg #[.int .i64 b.origin, .int .i64 b.number, .slice A b.mails.length c]] W fun e w' => (∃ A1 c1, e = .returned (.tuple #[.slice A1 X1.length c1, .int .i64 X2]) ∧ Bt w' A1 c1 X1) ∧ Below W.heap.size W w' from fun W hW => by
   have h := rbytes_any b A c W (HB0.out.on hW) HFB.out
   rw [hX] at h
   exact h)
  obtain ⟨RB, RC, hRD⟩ : ∃ RB RC, B.read t = (RB, RC) := ⟨_, _, rfl⟩
  have hRF : B.FitB RB := by have := read_fit (t := t) (by omega); rw [hRD] at this; exact this
  have HRF := Aside0.mk hRF
  have HRDD := Aside0.mk (show ∀ W, Below v0.heap.size v0 W → Calls Tryz.prog 15 #[.slice A7 t.length c7] W fun e w' => (∃ A c, e = .returned (.tuple #[.agg #[.int .i64 RB.origin, .int .i64 RB.number, .slice A RB.mails.length c], .int .i64 RC]) ∧ Bn w' RB A c) ∧ Below W.heap.size W w' from fun W hW => (read_any W (HTc.out.on hW) (by omega) (HVv.out.go hW)).mono (by
   rintro e w' ⟨h, h2⟩
   unfold readPost at h
   rw [hRD] at h
   exact ⟨h, h2⟩))
  have HRRD := Aside0.mk (show ∀ W, Below v0.heap.size v0 W → Calls Tryz.prog 16 #[.slice A2 t.length c2] W fun e w' => (∃ A c, e = .returned (.tuple #[.agg #[.int .i64 RB.origin, .int .i64 RB.number, .slice A RB.mails.length c], .int .i64 RC]) ∧ Bn w' RB A c) ∧ Below W.heap.size W w' from fun W hW => (rreadb_any W (HT0.out.on hW) (by omega)).mono (by
   rintro e w' ⟨h, h2⟩
   unfold readPost at h
   rw [hRD] at h
   exact ⟨h, h2⟩))
  obtain ⟨TN, hTN⟩ : ∃ TN, TN = B.pack l o n := ⟨_, rfl⟩
  obtain ⟨E9, hE9⟩ : ∃ E9 : Int, E9 = if TN = 0 then 9 else 0 := ⟨_, rfl⟩
  have HPK := Aside0.mk (show ∀ W, Below v0.heap.size v0 W → Calls Tryz.prog 17 #[.slice A8 l.length c8, .int .i64 o, .int .i64 n] W fun e w' => e = .returned (.tuple #[.int .i64 (TN : Int), .int .i64 E9]) ∧ Below W.heap.size W w' from fun W hW => by
   have h := pack_any l A8 c8 o n W (Kd.C_below HLc.out.2 hW) HLc.out.1 HFL.out.1 HFL.out.2 (HVv.out.go hW)
   rw [← hTN, ← hE9] at h
   exact h)
  have HRPK := Aside0.mk (show ∀ W, Below v0.heap.size v0 W → Calls Tryz.prog 18 #[.slice A3 l.length c3, .int .i64 o, .int .i64 n] W fun e w' => e = .returned (.int .i64 (TN : Int)) ∧ Below W.heap.size W w' from fun W hW => by
   have h := rpack_any l A3 c3 o n W HC.out (Kd.C_below HX0.out hW) HFL.out.1 HFL.out.2
   rw [← hTN] at h
   exact h)
  have HE9 := Aside0.mk hE9
  clear hX hRD hRF hTN hE9
  obtain ⟨e0, e1, e2, f0, f1, f2⟩ := cells3 HRG.out
  go_upto_region 5 with (first | (go_at_call 13; (with_reducible refine Calls.mono (HBY.out _ HV0.out) ?_); rintro e v1 ⟨⟨A11, c11, rfl, hfr⟩, h⟩; have HV1 := Aside0.mk (HV0.out.trans (h.mono HV0.out.size)); have HF1 := Aside0.mk hfr; clear hfr; have HN1 := Aside0.mk (Below.refl v1.heap.size v1); clear h))
  clear e0 e1 e2 f0 f1 f2
  obtain ⟨b0, b1, b2, g0, g1, g2⟩ := cells3 (row_on HV1.out HRB.out)
  go_upto_region 7 with (first | (go_at_call 14; (with_reducible refine Calls.mono (HRBY.out _ HV1.out) ?_); rintro e v2 ⟨⟨A12, c12, rfl, hbt⟩, h⟩; have HV2 := Aside0.mk (HV1.out.trans (h.mono HV1.out.size)); have HF2 := Aside0.mk hbt; clear hbt; have HN2 := Aside0.mk h; clear h) | (go_at_call 15; (with_reducible refine Calls.mono (HRDD.out _ HV2.out) ?_); rintro e v3 ⟨⟨A13, c13, rfl, hbn⟩, h⟩; have HV3 := Aside0.mk (HV2.out.trans (h.mono HV2.out.size)); have HB3 := Aside0.mk hbn; clear hbn; have HN3 := Aside0.mk (HN2.out.trans (h.mono HN2.out.size)); have HF3 := Aside0.mk (HF2.out.on h); clear h))
  clear b0 b1 b2 g0 g1 g2
  obtain ⟨gp, hgp⟩ : ∃ gp, gp = v3.heap.size := ⟨_, rfl⟩
  obtain ⟨v4, hv4⟩ : ∃ v4, v4 = v3.alloc (.cells #[.int .i64 RB.origin, .int .i64 RB.number, .slice A13 RB.mails.length c13] 24) := ⟨_, rfl⟩
  rw [← hv4, ← hgp]
  have HV4 := Aside0.mk (show Below v0.heap.size v0 v4 by rw [hv4]; exact HV3.out.alloc HV3.out.size _)
  have HRP := Aside0.mk (show v4.heap[gp]? = some (.cells #[.int .i64 RB.origin, .int .i64 RB.number, .slice A13 RB.mails.length c13] 24 (0, 0)) by rw [hv4, hgp]; exact heap_alloc_new _ _)
  have HN4 := Aside0.mk (show Below v3.heap.size v3 v4 by rw [hv4]; exact (Below.refl _ _).alloc (Nat.le_refl _) _)
  have HU1 := Aside0.mk (HF1.out.bt.on (HN3.out.trans (HN4.out.mono HN3.out.size)))
  clear hv4 hgp
  go_upto_region 8 with (first | (go_at_call 16; (with_reducible refine Calls.mono (HRRD.out _ HV4.out) ?_); rintro e v5 ⟨⟨A14, c14, rfl, hbn⟩, h⟩; have HV5 := Aside0.mk (HV4.out.trans (h.mono HV4.out.size)); have HB5 := Aside0.mk hbn; clear hbn; have HN5 := Aside0.mk h; clear h))
  obtain ⟨gq, hgq⟩ : ∃ gq, gq = v5.heap.size := ⟨_, rfl⟩
  obtain ⟨v6, hv6⟩ : ∃ v6, v6 = v5.alloc (.cells #[.int .i64 RB.origin, .int .i64 RB.number, .slice A14 RB.mails.length c14] 24) := ⟨_, rfl⟩
  rw [← hv6, ← hgq]
  have HV6 := Aside0.mk (show Below v0.heap.size v0 v6 by rw [hv6]; exact HV5.out.alloc HV5.out.size _)
  have HRQ := Aside0.mk (show v6.heap[gq]? = some (.cells #[.int .i64 RB.origin, .int .i64 RB.number, .slice A14 RB.mails.length c14] 24 (0, 0)) by rw [hv6, hgq]; exact heap_alloc_new _ _)
  have HN6 := Aside0.mk (show Below v5.heap.size v5 v6 by rw [hv6]; exact (Below.refl _ _).alloc (Nat.le_refl _) _)
  clear hv6 hgq
  go_upto_region 10 with (first | (go_at_call 17; (with_reducible refine Calls.mono (HPK.out _ HV6.out) ?_); rintro e v7 ⟨rfl, h⟩; have HV7 := Aside0.mk (HV6.out.trans (h.mono HV6.out.size)); have HN7 := Aside0.mk h; clear h) | (go_at_call 18; (with_reducible refine Calls.mono (HRPK.out _ HV7.out) ?_); rintro e v8 ⟨rfl, h⟩; have HV8 := Aside0.mk (HV7.out.trans (h.mono HV7.out.size)); have HN8 := Aside0.mk (HN7.out.trans (h.mono HN7.out.size)); clear h))
  have HN68 := Aside0.mk (show Below v5.heap.size v5 v8 from HN6.out.trans (HN8.out.mono HN6.out.size))
  have HN48 := Aside0.mk (show Below v4.heap.size v4 v8 from HN5.out.trans (HN68.out.mono HN5.out.size))
  have HX8 := Aside0.mk (HU1.out.on HN48.out)
  have HY8 := Aside0.mk (HF3.out.on (HN4.out.trans (HN48.out.mono HN4.out.size)))
  have HP8 := Aside0.mk (HB3.out.on (HN4.out.trans (HN48.out.mono HN4.out.size)))
  have HQ8 := Aside0.mk (HB5.out.on HN68.out)
  have HS10 := Aside0.mk (fun W (hW : Below v8.heap.size v8 W) => (show W.cell? ⟨g, 0, none⟩ = some (.int .i64 b.origin) ∧ W.cell? ⟨g, 1, none⟩ = some (.int .i64 b.number) ∧ W.cell? ⟨g, 2, none⟩ = some (.slice A6 b.mails.length c6) ∧ W.cell? ⟨w.heap.size, 0, none⟩ = some (.int .i64 b.origin) ∧ W.cell? ⟨w.heap.size, 1, none⟩ = some (.int .i64 b.number) ∧ W.cell? ⟨w.heap.size, 2, none⟩ = some (.slice A b.mails.length c) ∧ W.cell? ⟨gp, 0, none⟩ = some (.int .i64 RB.origin) ∧ W.cell? ⟨gp, 1, none⟩ = some (.int .i64 RB.number) ∧ W.cell? ⟨gp, 2, none⟩ = some (.slice A13 RB.mails.length c13) ∧ W.cell? ⟨gq, 0, none⟩ = some (.int .i64 RB.origin) ∧ W.cell? ⟨gq, 1, none⟩ = some (.int .i64 RB.number) ∧ W.cell? ⟨gq, 2, none⟩ = some (.slice A14 RB.mails.length c14) from by
   obtain ⟨p0, p1, p2, _⟩ := cells3 (row_on hW (row_on HV8.out HRG.out))
   obtain ⟨q0, q1, q2, _⟩ := cells3 (row_on hW (row_on HV8.out HRB.out))
   obtain ⟨r0, r1, r2, _⟩ := cells3 (row_on hW (row_on HN48.out HRP.out))
   obtain ⟨s0, s1, s2, _⟩ := cells3 (row_on hW (row_on HN8.out HRQ.out))
   exact ⟨p0, p1, p2, q0, q1, q2, r0, r1, r2, s0, s1, s2⟩))
  obtain ⟨C, hC⟩ : ∃ C, C = B.check b := ⟨_, rfl⟩
  obtain ⟨E1, hE1⟩ : ∃ E1, E1 = errOf C := ⟨_, rfl⟩
  have HCK := Aside0.mk (show ∀ W, Below v8.heap.size v8 W → Calls Tryz.prog 19 #[.agg #[.int .i64 b.origin, .int .i64 b.number, .slice A6 b.mails.length c6]] W fun e w' => e = .returned (.int .i64 E1) ∧ Below W.heap.size W w' from fun W hW => by
   have h := bcheck_any b A6 c6 W ((HBc.out.on HV8.out).on hW) HFB.out ((HVv.out.go HV8.out).go hW)
   rw [← hC, ← hE1] at h
   exact h)
  have HRC := Aside0.mk (show ∀ W, Below v8.heap.size v8 W → Calls Tryz.prog 20 #[.agg #[.int .i64 b.origin, .int .i64 b.number, .slice A b.mails.length c]] W fun e w' => e = .returned (.bool C) ∧ Below W.heap.size W w' from fun W hW => by
   have h := rbundle_any b A c W ((HB0.out.on HV8.out).on hW) HFB.out
   rw [← hC] at h
   exact h)
  have HKB := Aside0.mk (show ∀ W, Below v8.heap.size v8 W → Calls Tryz.prog 21 #[.slice A11 X1.length c11, .slice A12 X1.length c12] W fun e w' => e = .returned (.bool true) ∧ Below W.heap.size W w' from fun W hW => by
   have h := kbytes_any (HX8.out.on hW) (HY8.out.on hW) (by omega) (by omega)
   rw [decide_eq_true (rfl : X1 = X1)] at h
   exact h)
  have HKU := Aside0.mk (show ∀ W, Below v8.heap.size v8 W → Calls Tryz.prog 22 #[.agg #[.int .i64 RB.origin, .int .i64 RB.number, .slice A13 RB.mails.length c13], .agg #[.int .i64 RB.origin, .int .i64 RB.number, .slice A14 RB.mails.length c14]] W fun e w' => e = .returned (.bool true) ∧ Below W.heap.size W w' from fun W hW => by
   have h := kbundle_any RB RB A13 c13 A14 c14 W (HP8.out.on hW) (HQ8.out.on hW) HRF.out HRF.out
   rw [decide_eq_true (rfl : RB = RB)] at h
   exact h)
  have k1 : (E1 == 0) = C := by rw [hE1]; cases C <;> rfl
  have k2 : (C != C) = false := by simp
  have k3 : (X2 != X2) = false := by simp
  have k4 : (RC != RC) = false := by simp
  have k5 : ((TN : Int) != (TN : Int)) = false := by simp
  clear hC hE1
  go_cut [128] (fun v128 wd => v128 = .bool false ∧ Aside0 (Below v8.heap.size v8 wd))
  case first =>
   have HW10 := Aside0.mk (show Below v8.heap.size v8 v8.drew from (Below.refl _ _).drew)
   by_cases hz : TN = 0
   ·have z1 : ((TN : Int) == 0) = true := beq_iff_eq.2 (by omega)
    have z2 : (E9 == 9) = true := by rw [HE9.out, if_pos hz]; rfl
    have z3 : decide ((0 : Int) < (TN : Int)) = false := by simp; omega
    have z4 : ¬ (0 : Int) < (TN : Int) := by omega
    have z5 : decide (0 < TN) = false := by simp; omega
    clear hz
    refine wp_region_held_drew (S := (fun w' => w'.cell? ⟨g, 0, none⟩ = some (.int .i64 b.origin) ∧ w'.cell? ⟨g, 1, none⟩ = some (.int .i64 b.number) ∧ w'.cell? ⟨g, 2, none⟩ = some (.slice A6 b.mails.length c6) ∧ w'.cell? ⟨w.heap.size, 0, none⟩ = some (.int .i64 b.origin) ∧ w'.cell? ⟨w.heap.size, 1, none⟩ = some (.int .i64 b.number) ∧ w'.cell? ⟨w.heap.size, 2, none⟩ = some (.slice A b.mails.length c) ∧ w'.cell? ⟨gp, 0, none⟩ = some (.int .i64 RB.origin) ∧ w'.cell? ⟨gp, 1, none⟩ = some (.int .i64 RB.number) ∧ w'.cell? ⟨gp, 2, none⟩ = some (.slice A13 RB.mails.length c13) ∧ w'.cell? ⟨gq, 0, none⟩ = some (.int .i64 RB.origin) ∧ w'.cell? ⟨gq, 1, none⟩ = some (.int .i64 RB.number) ∧ w'.cell? ⟨gq, 2, none⟩ = some (.slice A14 RB.mails.length c14))) (by kernel_rfl) ?_ (fun hHeld => ?_)
    ·first | (with_reducible exact HS10.out _ HW10.out) | (with_reducible exact HS10.out _ (Below.refl _ _).drew)
    refine wpAnyH_take (i := 0) (oi := _) (v := ?_) rfl (by kernel_rfl) (by kernel_rfl) (by kernel_rfl) (fun _ _ _ h => h) (Or.inl ⟨by rfl, ?_⟩) (by assumption) ?_
    case refine_2 => (intro w hSw; (try dsimp only [List.getElem_toArray, List.getElem_cons_zero, List.getElem_cons_succ] at hSw ⊢); go_simp; (try with_reducible rfl))
    try simp only [Act.put, List.getElem_toArray, List.getElem_cons_zero, List.getElem_cons_succ, List.setIfInBounds_toArray, List.set_cons_zero, List.set_cons_succ]
    refine wpAnyH_take (i := 3) (oi := _) (v := ?_) rfl (by kernel_rfl) (by kernel_rfl) (by kernel_rfl) (fun _ _ _ h => h) (Or.inl ⟨by rfl, ?_⟩) (by assumption) ?_
    case refine_2 => (intro w hSw; (try dsimp only [List.getElem_toArray, List.getElem_cons_zero, List.getElem_cons_succ] at hSw ⊢); go_simp; (try with_reducible rfl))
    try simp only [Act.put, List.getElem_toArray, List.getElem_cons_zero, List.getElem_cons_succ, List.setIfInBounds_toArray, List.set_cons_zero, List.set_cons_succ]
    refine wpAnyH_ready (rs := [1]) (by kernel_rfl) (by simp) ?_
    refine (AllReadyH.cons (o := _) (by simp only [List.getElem?_toArray, List.getElem?_cons_zero, List.getElem?_cons_succ]; rfl) (fun K hK => ?_) AllReadyH.nil)
    go_simp
    go_at_call 19
    (with_reducible refine Calls.mono (HCK.out _ HW10.out) ?_)
    rintro e wn ⟨rfl, h⟩
    have HWn := Aside0.mk (HW10.out.trans (h.mono HW10.out.size))
    clear HW10 h
    obtain ⟨wm, rfl⟩ : ∃ wz : World, wz = wn := ⟨_, rfl⟩
    have HW10 := Aside0.mk HWn.out
    clear HWn
    go_wp2_with (fail)
    refine hK.out _ _ ?_ (fun hHeld2 => ?_)
    ·first | (with_reducible exact HS10.out _ HW10.out) | (with_reducible exact HS10.out _ (Below.refl _ _).drew)
    clear hK K hHeld
    have hHeld := hHeld2
    clear hHeld2
    try simp only [Act.put, List.getElem_toArray, List.getElem_cons_zero, List.getElem_cons_succ, List.setIfInBounds_toArray, List.set_cons_zero, List.set_cons_succ]
    refine wpAnyH_take (i := 2) (oi := _) (v := ?_) rfl (by kernel_rfl) (by kernel_rfl) (by kernel_rfl) (fun _ _ _ h => h) (Or.inl ⟨by rfl, ?_⟩) (by assumption) ?_
    case refine_2 => (intro w hSw; (try dsimp only [List.getElem_toArray, List.getElem_cons_zero, List.getElem_cons_succ] at hSw ⊢); go_simp; (try with_reducible rfl))
    try simp only [Act.put, List.getElem_toArray, List.getElem_cons_zero, List.getElem_cons_succ, List.setIfInBounds_toArray, List.set_cons_zero, List.set_cons_succ]
    refine wpAnyH_ready (rs := [4]) (by kernel_rfl) (by simp) ?_
    refine (AllReadyH.cons (o := _) (by simp only [List.getElem?_toArray, List.getElem?_cons_zero, List.getElem?_cons_succ]; rfl) (fun K hK => ?_) AllReadyH.nil)
    go_simp
    go_at_call 20
    (with_reducible refine Calls.mono (HRC.out _ HW10.out) ?_)
    rintro e wn ⟨rfl, h⟩
    have HWn := Aside0.mk (HW10.out.trans (h.mono HW10.out.size))
    clear HW10 h
    obtain ⟨wm, rfl⟩ : ∃ wz : World, wz = wn := ⟨_, rfl⟩
    have HW10 := Aside0.mk HWn.out
    clear HWn
    go_wp2_with (fail)
    refine hK.out _ _ ?_ (fun hHeld2 => ?_)
    ·first | (with_reducible exact HS10.out _ HW10.out) | (with_reducible exact HS10.out _ (Below.refl _ _).drew)
    clear hK K hHeld
    have hHeld := hHeld2
    clear hHeld2
    try simp only [Act.put, List.getElem_toArray, List.getElem_cons_zero, List.getElem_cons_succ, List.setIfInBounds_toArray, List.set_cons_zero, List.set_cons_succ]
    refine wpAnyH_take (i := 5) (oi := _) (v := ?_) rfl (by kernel_rfl) (by kernel_rfl) (by kernel_rfl) (fun _ _ _ h => h) (Or.inl ⟨by rfl, ?_⟩) (by assumption) ?_
    case refine_2 => (intro w hSw; (try dsimp only [List.getElem_toArray, List.getElem_cons_zero, List.getElem_cons_succ] at hSw ⊢); go_simp; (try with_reducible rfl))
    try simp only [Act.put, List.getElem_toArray, List.getElem_cons_zero, List.getElem_cons_succ, List.setIfInBounds_toArray, List.set_cons_zero, List.set_cons_succ]
    refine wpAnyH_take (i := 6) (oi := _) (v := ?_) rfl (by kernel_rfl) (by kernel_rfl) (by kernel_rfl) (fun _ _ _ h => h) (Or.inl ⟨by rfl, ?_⟩) (by assumption) ?_
    case refine_2 => (intro w hSw; (try dsimp only [List.getElem_toArray, List.getElem_cons_zero, List.getElem_cons_succ] at hSw ⊢); go_simp; (try with_reducible rfl))
    try simp only [Act.put, List.getElem_toArray, List.getElem_cons_zero, List.getElem_cons_succ, List.setIfInBounds_toArray, List.set_cons_zero, List.set_cons_succ]
    refine wpAnyH_take (i := 7) (oi := _) (v := ?_) rfl (by kernel_rfl) (by kernel_rfl) (by kernel_rfl) (fun _ _ _ h => h) (Or.inl ⟨by rfl, ?_⟩) (by assumption) ?_
    case refine_2 => (intro w hSw; (try dsimp only [List.getElem_toArray, List.getElem_cons_zero, List.getElem_cons_succ] at hSw ⊢); go_simp; (try with_reducible rfl))
    try simp only [Act.put, List.getElem_toArray, List.getElem_cons_zero, List.getElem_cons_succ, List.setIfInBounds_toArray, List.set_cons_zero, List.set_cons_succ]
    refine wpAnyH_take (i := 8) (oi := _) (v := ?_) rfl (by kernel_rfl) (by kernel_rfl) (by kernel_rfl) (fun _ _ _ h => h) (Or.inl ⟨by rfl, ?_⟩) (by assumption) ?_
    case refine_2 => (intro w hSw; (try dsimp only [List.getElem_toArray, List.getElem_cons_zero, List.getElem_cons_succ] at hSw ⊢); go_simp; (try with_reducible rfl))
    try simp only [Act.put, List.getElem_toArray, List.getElem_cons_zero, List.getElem_cons_succ, List.setIfInBounds_toArray, List.set_cons_zero, List.set_cons_succ]
    refine wpAnyH_take (i := 9) (oi := _) (v := ?_) rfl (by kernel_rfl) (by kernel_rfl) (by kernel_rfl) (fun _ _ _ h => h) (Or.inl ⟨by rfl, ?_⟩) (by assumption) ?_
    case refine_2 => (intro w hSw; (try dsimp only [List.getElem_toArray, List.getElem_cons_zero, List.getElem_cons_succ] at hSw ⊢); go_simp; (try with_reducible rfl))
    try simp only [Act.put, List.getElem_toArray, List.getElem_cons_zero, List.getElem_cons_succ, List.setIfInBounds_toArray, List.set_cons_zero, List.set_cons_succ]
    refine wpAnyH_take (i := 10) (oi := _) (v := ?_) rfl (by kernel_rfl) (by kernel_rfl) (by kernel_rfl) (fun _ _ _ h => h) (Or.inl ⟨by rfl, ?_⟩) (by assumption) ?_
    case refine_2 => (intro w hSw; (try dsimp only [List.getElem_toArray, List.getElem_cons_zero, List.getElem_cons_succ] at hSw ⊢); go_simp; (try with_reducible rfl))
    try simp only [Act.put, List.getElem_toArray, List.getElem_cons_zero, List.getElem_cons_succ, List.setIfInBounds_toArray, List.set_cons_zero, List.set_cons_succ]
    refine wpAnyH_take (i := 11) (oi := _) (v := ?_) rfl (by kernel_rfl) (by kernel_rfl) (by kernel_rfl) (fun _ _ _ h => h) (Or.inl ⟨by rfl, ?_⟩) (by assumption) ?_
    case refine_2 => (intro w hSw; (try dsimp only [List.getElem_toArray, List.getElem_cons_zero, List.getElem_cons_succ] at hSw ⊢); go_simp; (try with_reducible rfl))
    try simp only [Act.put, List.getElem_toArray, List.getElem_cons_zero, List.getElem_cons_succ, List.setIfInBounds_toArray, List.set_cons_zero, List.set_cons_succ]
    refine wpAnyH_take (i := 12) (oi := _) (v := ?_) rfl (by kernel_rfl) (by kernel_rfl) (by kernel_rfl) (fun _ _ _ h => h) (Or.inl ⟨by rfl, ?_⟩) (by assumption) ?_
    case refine_2 => (intro w hSw; (try dsimp only [List.getElem_toArray, List.getElem_cons_zero, List.getElem_cons_succ] at hSw ⊢); go_simp; (try with_reducible rfl))
    try simp only [Act.put, List.getElem_toArray, List.getElem_cons_zero, List.getElem_cons_succ, List.setIfInBounds_toArray, List.set_cons_zero, List.set_cons_succ]
    refine wpAnyH_take (i := 13) (oi := _) (v := ?_) rfl (by kernel_rfl) (by kernel_rfl) (by kernel_rfl) (fun _ _ _ h => h) (Or.inl ⟨by rfl, ?_⟩) (by assumption) ?_
    case refine_2 => (intro w hSw; (try dsimp only [List.getElem_toArray, List.getElem_cons_zero, List.getElem_cons_succ] at hSw ⊢); go_simp; (try with_reducible rfl))
    try simp only [Act.put, List.getElem_toArray, List.getElem_cons_zero, List.getElem_cons_succ, List.setIfInBounds_toArray, List.set_cons_zero, List.set_cons_succ]
    refine wpAnyH_ready (rs := [14]) (by kernel_rfl) (by simp) ?_
    refine (AllReadyH.cons (o := _) (by simp only [List.getElem?_toArray, List.getElem?_cons_zero, List.getElem?_cons_succ]; rfl) (fun K hK => ?_) AllReadyH.nil)
    go_simp
    go_at_call 21
    (with_reducible refine Calls.mono (HKB.out _ HW10.out) ?_)
    rintro e wn ⟨rfl, h⟩
    have HWn := Aside0.mk (HW10.out.trans (h.mono HW10.out.size))
    clear HW10 h
    obtain ⟨wm, rfl⟩ : ∃ wz : World, wz = wn := ⟨_, rfl⟩
    have HW10 := Aside0.mk HWn.out
    clear HWn
    go_wp2_with (fail)
    refine hK.out _ _ ?_ (fun hHeld2 => ?_)
    ·first | (with_reducible exact HS10.out _ HW10.out) | (with_reducible exact HS10.out _ (Below.refl _ _).drew)
    clear hK K hHeld
    have hHeld := hHeld2
    clear hHeld2
    try simp only [Act.put, List.getElem_toArray, List.getElem_cons_zero, List.getElem_cons_succ, List.setIfInBounds_toArray, List.set_cons_zero, List.set_cons_succ]
    refine wpAnyH_take (i := 15) (oi := _) (v := ?_) rfl (by kernel_rfl) (by kernel_rfl) (by kernel_rfl) (fun _ _ _ h => h) (Or.inl ⟨by rfl, ?_⟩) (by assumption) ?_
    case refine_2 => (intro w hSw; (try dsimp only [List.getElem_toArray, List.getElem_cons_zero, List.getElem_cons_succ] at hSw ⊢); go_simp; (try with_reducible rfl))
    try simp only [Act.put, List.getElem_toArray, List.getElem_cons_zero, List.getElem_cons_succ, List.setIfInBounds_toArray, List.set_cons_zero, List.set_cons_succ]
    refine wpAnyH_take (i := 16) (oi := _) (v := ?_) rfl (by kernel_rfl) (by kernel_rfl) (by kernel_rfl) (fun _ _ _ h => h) (Or.inl ⟨by rfl, ?_⟩) (by assumption) ?_
    case refine_2 => (intro w hSw; (try dsimp only [List.getElem_toArray, List.getElem_cons_zero, List.getElem_cons_succ] at hSw ⊢); go_simp; (try with_reducible rfl))
    try simp only [Act.put, List.getElem_toArray, List.getElem_cons_zero, List.getElem_cons_succ, List.setIfInBounds_toArray, List.set_cons_zero, List.set_cons_succ]
    refine wpAnyH_take (i := 17) (oi := _) (v := ?_) rfl (by kernel_rfl) (by kernel_rfl) (by kernel_rfl) (fun _ _ _ h => h) (Or.inl ⟨by rfl, ?_⟩) (by assumption) ?_
    case refine_2 => (intro w hSw; (try dsimp only [List.getElem_toArray, List.getElem_cons_zero, List.getElem_cons_succ] at hSw ⊢); go_simp; (try with_reducible rfl))
    try simp only [Act.put, List.getElem_toArray, List.getElem_cons_zero, List.getElem_cons_succ, List.setIfInBounds_toArray, List.set_cons_zero, List.set_cons_succ]
    refine wpAnyH_take (i := 18) (oi := _) (v := ?_) rfl (by kernel_rfl) (by kernel_rfl) (by kernel_rfl) (fun _ _ _ h => h) (Or.inl ⟨by rfl, ?_⟩) (by assumption) ?_
    case refine_2 => (intro w hSw; (try dsimp only [List.getElem_toArray, List.getElem_cons_zero, List.getElem_cons_succ] at hSw ⊢); go_simp; (try with_reducible rfl))
    try simp only [Act.put, List.getElem_toArray, List.getElem_cons_zero, List.getElem_cons_succ, List.setIfInBounds_toArray, List.set_cons_zero, List.set_cons_succ]
    refine wpAnyH_take (i := 19) (oi := _) (v := ?_) rfl (by kernel_rfl) (by kernel_rfl) (by kernel_rfl) (fun _ _ _ h => h) (Or.inl ⟨by rfl, ?_⟩) (by assumption) ?_
    case refine_2 => (intro w hSw; (try dsimp only [List.getElem_toArray, List.getElem_cons_zero, List.getElem_cons_succ] at hSw ⊢); go_simp; (try with_reducible rfl))
    try simp only [Act.put, List.getElem_toArray, List.getElem_cons_zero, List.getElem_cons_succ, List.setIfInBounds_toArray, List.set_cons_zero, List.set_cons_succ]
    refine wpAnyH_take (i := 20) (oi := _) (v := ?_) rfl (by kernel_rfl) (by kernel_rfl) (by kernel_rfl) (fun _ _ _ h => h) (Or.inl ⟨by rfl, ?_⟩) (by assumption) ?_
    case refine_2 => (intro w hSw; (try dsimp only [List.getElem_toArray, List.getElem_cons_zero, List.getElem_cons_succ] at hSw ⊢); go_simp; (try with_reducible rfl))
    try simp only [Act.put, List.getElem_toArray, List.getElem_cons_zero, List.getElem_cons_succ, List.setIfInBounds_toArray, List.set_cons_zero, List.set_cons_succ]
    refine wpAnyH_take (i := 21) (oi := _) (v := ?_) rfl (by kernel_rfl) (by kernel_rfl) (by kernel_rfl) (fun _ _ _ h => h) (Or.inl ⟨by rfl, ?_⟩) (by assumption) ?_
    case refine_2 => (intro w hSw; (try dsimp only [List.getElem_toArray, List.getElem_cons_zero, List.getElem_cons_succ] at hSw ⊢); go_simp; (try with_reducible rfl))
    try simp only [Act.put, List.getElem_toArray, List.getElem_cons_zero, List.getElem_cons_succ, List.setIfInBounds_toArray, List.set_cons_zero, List.set_cons_succ]
    refine wpAnyH_take (i := 22) (oi := _) (v := ?_) rfl (by kernel_rfl) (by kernel_rfl) (by kernel_rfl) (fun _ _ _ h => h) (Or.inl ⟨by rfl, ?_⟩) (by assumption) ?_
    case refine_2 => (intro w hSw; (try dsimp only [List.getElem_toArray, List.getElem_cons_zero, List.getElem_cons_succ] at hSw ⊢); go_simp; (try with_reducible rfl))
    try simp only [Act.put, List.getElem_toArray, List.getElem_cons_zero, List.getElem_cons_succ, List.setIfInBounds_toArray, List.set_cons_zero, List.set_cons_succ]
    refine wpAnyH_take (i := 23) (oi := _) (v := ?_) rfl (by kernel_rfl) (by kernel_rfl) (by kernel_rfl) (fun _ _ _ h => h) (Or.inl ⟨by rfl, ?_⟩) (by assumption) ?_
    case refine_2 => (intro w hSw; (try dsimp only [List.getElem_toArray, List.getElem_cons_zero, List.getElem_cons_succ] at hSw ⊢); go_simp; (try with_reducible rfl))
    try simp only [Act.put, List.getElem_toArray, List.getElem_cons_zero, List.getElem_cons_succ, List.setIfInBounds_toArray, List.set_cons_zero, List.set_cons_succ]
    refine wpAnyH_take (i := 24) (oi := _) (v := ?_) rfl (by kernel_rfl) (by kernel_rfl) (by kernel_rfl) (fun _ _ _ h => h) (Or.inl ⟨by rfl, ?_⟩) (by assumption) ?_
    case refine_2 => (intro w hSw; (try dsimp only [List.getElem_toArray, List.getElem_cons_zero, List.getElem_cons_succ] at hSw ⊢); go_simp; (try with_reducible rfl))
    try simp only [Act.put, List.getElem_toArray, List.getElem_cons_zero, List.getElem_cons_succ, List.setIfInBounds_toArray, List.set_cons_zero, List.set_cons_succ]
    refine wpAnyH_ready (rs := [25]) (by kernel_rfl) (by simp) ?_
    refine (AllReadyH.cons (o := _) (by simp only [List.getElem?_toArray, List.getElem?_cons_zero, List.getElem?_cons_succ]; rfl) (fun K hK => ?_) AllReadyH.nil)
    go_simp
    go_at_call 22
    (with_reducible refine Calls.mono (HKU.out _ HW10.out) ?_)
    rintro e wn ⟨rfl, h⟩
    have HWn := Aside0.mk (HW10.out.trans (h.mono HW10.out.size))
    clear HW10 h
    obtain ⟨wm, rfl⟩ : ∃ wz : World, wz = wn := ⟨_, rfl⟩
    have HW10 := Aside0.mk HWn.out
    clear HWn
    go_wp2_with (fail)
    refine hK.out _ _ ?_ (fun hHeld2 => ?_)
    ·first | (with_reducible exact HS10.out _ HW10.out) | (with_reducible exact HS10.out _ (Below.refl _ _).drew)
    clear hK K hHeld
    have hHeld := hHeld2
    clear hHeld2
    try simp only [Act.put, List.getElem_toArray, List.getElem_cons_zero, List.getElem_cons_succ, List.setIfInBounds_toArray, List.set_cons_zero, List.set_cons_succ]
    refine wpAnyH_take (i := 26) (oi := _) (v := ?_) rfl (by kernel_rfl) (by kernel_rfl) (by kernel_rfl) (fun _ _ _ h => h) (Or.inl ⟨by rfl, ?_⟩) (by assumption) ?_
    case refine_2 => (intro w hSw; (try dsimp only [List.getElem_toArray, List.getElem_cons_zero, List.getElem_cons_succ] at hSw ⊢); go_simp; (try with_reducible rfl))
    try simp only [Act.put, List.getElem_toArray, List.getElem_cons_zero, List.getElem_cons_succ, List.setIfInBounds_toArray, List.set_cons_zero, List.set_cons_succ]
    refine wpAnyH_take (i := 27) (oi := _) (v := ?_) rfl (by kernel_rfl) (by kernel_rfl) (by kernel_rfl) (fun _ _ _ h => h) (Or.inl ⟨by rfl, ?_⟩) (by assumption) ?_
    case refine_2 => (intro w hSw; (try dsimp only [List.getElem_toArray, List.getElem_cons_zero, List.getElem_cons_succ] at hSw ⊢); go_simp; (try with_reducible rfl))
    try simp only [Act.put, List.getElem_toArray, List.getElem_cons_zero, List.getElem_cons_succ, List.setIfInBounds_toArray, List.set_cons_zero, List.set_cons_succ]
    refine wpAnyH_take (i := 28) (oi := _) (v := ?_) rfl (by kernel_rfl) (by kernel_rfl) (by kernel_rfl) (fun _ _ _ h => h) (Or.inl ⟨by rfl, ?_⟩) (by assumption) ?_
    case refine_2 => (intro w hSw; (try dsimp only [List.getElem_toArray, List.getElem_cons_zero, List.getElem_cons_succ] at hSw ⊢); go_simp; (try with_reducible rfl))
    try simp only [Act.put, List.getElem_toArray, List.getElem_cons_zero, List.getElem_cons_succ, List.setIfInBounds_toArray, List.set_cons_zero, List.set_cons_succ]
    refine wpAnyH_take (i := 29) (oi := _) (v := ?_) rfl (by kernel_rfl) (by kernel_rfl) (by kernel_rfl) (fun _ _ _ h => h) (Or.inl ⟨by rfl, ?_⟩) (by assumption) ?_
    case refine_2 => (intro w hSw; (try dsimp only [List.getElem_toArray, List.getElem_cons_zero, List.getElem_cons_succ] at hSw ⊢); go_simp; (try with_reducible rfl))
    try simp only [Act.put, List.getElem_toArray, List.getElem_cons_zero, List.getElem_cons_succ, List.setIfInBounds_toArray, List.set_cons_zero, List.set_cons_succ]
    refine wpAnyH_take (i := 30) (oi := _) (v := ?_) rfl (by kernel_rfl) (by kernel_rfl) (by kernel_rfl) (fun _ _ _ h => h) (Or.inl ⟨by rfl, ?_⟩) (by assumption) ?_
    case refine_2 => (intro w hSw; (try dsimp only [List.getElem_toArray, List.getElem_cons_zero, List.getElem_cons_succ] at hSw ⊢); go_simp; (try with_reducible rfl))
    try simp only [Act.put, List.getElem_toArray, List.getElem_cons_zero, List.getElem_cons_succ, List.setIfInBounds_toArray, List.set_cons_zero, List.set_cons_succ]
    refine wpAnyH_take (i := 31) (oi := _) (v := ?_) rfl (by kernel_rfl) (by kernel_rfl) (by kernel_rfl) (fun _ _ _ h => h) (Or.inl ⟨by rfl, ?_⟩) (by assumption) ?_
    case refine_2 => (intro w hSw; (try dsimp only [List.getElem_toArray, List.getElem_cons_zero, List.getElem_cons_succ] at hSw ⊢); go_simp; (try with_reducible rfl))
    try simp only [Act.put, List.getElem_toArray, List.getElem_cons_zero, List.getElem_cons_succ, List.setIfInBounds_toArray, List.set_cons_zero, List.set_cons_succ]
    refine wpAnyH_take (i := 32) (oi := _) (v := ?_) rfl (by kernel_rfl) (by kernel_rfl) (by kernel_rfl) (fun _ _ _ h => h) (Or.inl ⟨by rfl, ?_⟩) (by assumption) ?_
    case refine_2 => (intro w hSw; (try dsimp only [List.getElem_toArray, List.getElem_cons_zero, List.getElem_cons_succ] at hSw ⊢); go_simp; (try with_reducible rfl))
    try simp only [Act.put, List.getElem_toArray, List.getElem_cons_zero, List.getElem_cons_succ, List.setIfInBounds_toArray, List.set_cons_zero, List.set_cons_succ]
    refine wpAnyH_take (i := 33) (oi := _) (v := ?_) rfl (by kernel_rfl) (by kernel_rfl) (by kernel_rfl) (fun _ _ _ h => h) (Or.inl ⟨by rfl, ?_⟩) (by assumption) ?_
    case refine_2 => (intro w hSw; (try dsimp only [List.getElem_toArray, List.getElem_cons_zero, List.getElem_cons_succ] at hSw ⊢); go_simp; (try with_reducible rfl))
    try simp only [Act.put, List.getElem_toArray, List.getElem_cons_zero, List.getElem_cons_succ, List.setIfInBounds_toArray, List.set_cons_zero, List.set_cons_succ]
    refine wpAnyH_take (i := 34) (oi := _) (v := ?_) rfl (by kernel_rfl) (by kernel_rfl) (by kernel_rfl) (fun _ _ _ h => h) (Or.inl ⟨by rfl, ?_⟩) (by assumption) ?_
    case refine_2 => (intro w hSw; (try dsimp only [List.getElem_toArray, List.getElem_cons_zero, List.getElem_cons_succ] at hSw ⊢); go_simp; (try with_reducible rfl))
    try simp only [Act.put, List.getElem_toArray, List.getElem_cons_zero, List.getElem_cons_succ, List.setIfInBounds_toArray, List.set_cons_zero, List.set_cons_succ]
    refine wpAnyH_take (i := 35) (oi := _) (v := ?_) rfl (by kernel_rfl) (by kernel_rfl) (by kernel_rfl) (fun _ _ _ h => h) (Or.inl ⟨by rfl, ?_⟩) (by assumption) ?_
    case refine_2 => (intro w hSw; (try dsimp only [List.getElem_toArray, List.getElem_cons_zero, List.getElem_cons_succ] at hSw ⊢); go_simp; (try with_reducible rfl))
    try simp only [Act.put, List.getElem_toArray, List.getElem_cons_zero, List.getElem_cons_succ, List.setIfInBounds_toArray, List.set_cons_zero, List.set_cons_succ]
    refine wpAnyH_take (i := 36) (oi := _) (v := ?_) rfl (by kernel_rfl) (by kernel_rfl) (by kernel_rfl) (fun _ _ _ h => h) (Or.inl ⟨by rfl, ?_⟩) (by assumption) ?_
    case refine_2 => (intro w hSw; (try dsimp only [List.getElem_toArray, List.getElem_cons_zero, List.getElem_cons_succ] at hSw ⊢); go_simp; (try with_reducible rfl))
    try simp only [Act.put, List.getElem_toArray, List.getElem_cons_zero, List.getElem_cons_succ, List.setIfInBounds_toArray, List.set_cons_zero, List.set_cons_succ]
    refine wpAnyH_take (i := 37) (oi := _) (v := ?_) rfl (by kernel_rfl) (by kernel_rfl) (by kernel_rfl) (fun _ _ _ h => h) (Or.inl ⟨by rfl, ?_⟩) (by assumption) ?_
    case refine_2 => (intro w hSw; (try dsimp only [List.getElem_toArray, List.getElem_cons_zero, List.getElem_cons_succ] at hSw ⊢); go_simp; (try with_reducible rfl))
    try simp only [Act.put, List.getElem_toArray, List.getElem_cons_zero, List.getElem_cons_succ, List.setIfInBounds_toArray, List.set_cons_zero, List.set_cons_succ]
    refine wpAnyH_take (i := 38) (oi := _) (v := ?_) rfl (by kernel_rfl) (by kernel_rfl) (by kernel_rfl) (fun _ _ _ h => h) (Or.inl ⟨by rfl, ?_⟩) (by assumption) ?_
    case refine_2 => (intro w hSw; (try dsimp only [List.getElem_toArray, List.getElem_cons_zero, List.getElem_cons_succ] at hSw ⊢); go_simp; (try with_reducible rfl))
    try simp only [Act.put, List.getElem_toArray, List.getElem_cons_zero, List.getElem_cons_succ, List.setIfInBounds_toArray, List.set_cons_zero, List.set_cons_succ]
    refine wpAnyH_take (i := 39) (oi := _) (v := ?_) rfl (by kernel_rfl) (by kernel_rfl) (by kernel_rfl) (fun _ _ _ h => h) (Or.inl ⟨by rfl, ?_⟩) (by assumption) ?_
    case refine_2 => (intro w hSw; (try dsimp only [List.getElem_toArray, List.getElem_cons_zero, List.getElem_cons_succ] at hSw ⊢); go_simp; (try with_reducible rfl))
    try simp only [Act.put, List.getElem_toArray, List.getElem_cons_zero, List.getElem_cons_succ, List.setIfInBounds_toArray, List.set_cons_zero, List.set_cons_succ]
    refine wpAnyH_take (i := 40) (oi := _) (v := ?_) rfl (by kernel_rfl) (by kernel_rfl) (by kernel_rfl) (fun _ _ _ h => h) (Or.inl ⟨by rfl, ?_⟩) (by assumption) ?_
    case refine_2 => (intro w hSw; (try dsimp only [List.getElem_toArray, List.getElem_cons_zero, List.getElem_cons_succ] at hSw ⊢); go_simp; (try with_reducible rfl))
    try simp only [Act.put, List.getElem_toArray, List.getElem_cons_zero, List.getElem_cons_succ, List.setIfInBounds_toArray, List.set_cons_zero, List.set_cons_succ]
    refine wpAnyH_take (i := 41) (oi := _) (v := ?_) rfl (by kernel_rfl) (by kernel_rfl) (by kernel_rfl) (fun _ _ _ h => h) (Or.inl ⟨by rfl, ?_⟩) (by assumption) ?_
    case refine_2 => (intro w hSw; (try dsimp only [List.getElem_toArray, List.getElem_cons_zero, List.getElem_cons_succ] at hSw ⊢); go_simp; (try with_reducible rfl))
    try simp only [Act.put, List.getElem_toArray, List.getElem_cons_zero, List.getElem_cons_succ, List.setIfInBounds_toArray, List.set_cons_zero, List.set_cons_succ]
    refine wpAnyH_take (i := 42) (oi := _) (v := ?_) rfl (by kernel_rfl) (by kernel_rfl) (by kernel_rfl) (fun _ _ _ h => h) (Or.inl ⟨by rfl, ?_⟩) (by assumption) ?_
    case refine_2 => (intro w hSw; (try dsimp only [List.getElem_toArray, List.getElem_cons_zero, List.getElem_cons_succ] at hSw ⊢); go_simp; (try with_reducible rfl))
    try simp only [Act.put, List.getElem_toArray, List.getElem_cons_zero, List.getElem_cons_succ, List.setIfInBounds_toArray, List.set_cons_zero, List.set_cons_succ]
    refine wpAnyH_take (i := 43) (oi := _) (v := ?_) rfl (by kernel_rfl) (by kernel_rfl) (by kernel_rfl) (fun _ _ _ h => h) (Or.inl ⟨by rfl, ?_⟩) (by assumption) ?_
    case refine_2 => (intro w hSw; (try dsimp only [List.getElem_toArray, List.getElem_cons_zero, List.getElem_cons_succ] at hSw ⊢); go_simp; (try with_reducible rfl))
    try simp only [Act.put, List.getElem_toArray, List.getElem_cons_zero, List.getElem_cons_succ, List.setIfInBounds_toArray, List.set_cons_zero, List.set_cons_succ]
    refine wpAnyH_take (i := 44) (oi := _) (v := undef) rfl (by kernel_rfl) (by kernel_rfl) (by kernel_rfl) (fun _ _ _ h => h) (Or.inr ⟨by rfl, rfl⟩) (by assumption) ?_
    try simp only [Act.put, List.getElem_toArray, List.getElem_cons_zero, List.getElem_cons_succ, List.setIfInBounds_toArray, List.set_cons_zero, List.set_cons_succ]
    refine wpAnyH_take (i := 45) (oi := _) (v := undef) rfl (by kernel_rfl) (by kernel_rfl) (by kernel_rfl) (fun _ _ _ h => h) (Or.inr ⟨by rfl, rfl⟩) (by assumption) ?_
    try simp only [Act.put, List.getElem_toArray, List.getElem_cons_zero, List.getElem_cons_succ, List.setIfInBounds_toArray, List.set_cons_zero, List.set_cons_succ]
    refine wpAnyH_take (i := 46) (oi := _) (v := ?_) rfl (by kernel_rfl) (by kernel_rfl) (by kernel_rfl) (fun _ _ _ h => h) (Or.inl ⟨by rfl, ?_⟩) (by assumption) ?_
    case refine_2 => (intro w hSw; (try dsimp only [List.getElem_toArray, List.getElem_cons_zero, List.getElem_cons_succ] at hSw ⊢); go_simp; (try with_reducible rfl))
    try simp only [Act.put, List.getElem_toArray, List.getElem_cons_zero, List.getElem_cons_succ, List.setIfInBounds_toArray, List.set_cons_zero, List.set_cons_succ]
    refine wpAnyH_take (i := 47) (oi := _) (v := ?_) rfl (by kernel_rfl) (by kernel_rfl) (by kernel_rfl) (fun _ _ _ h => h) (Or.inl ⟨by rfl, ?_⟩) (by assumption) ?_
    case refine_2 => (intro w hSw; (try dsimp only [List.getElem_toArray, List.getElem_cons_zero, List.getElem_cons_succ] at hSw ⊢); go_simp; (try with_reducible rfl))
    try simp only [Act.put, List.getElem_toArray, List.getElem_cons_zero, List.getElem_cons_succ, List.setIfInBounds_toArray, List.set_cons_zero, List.set_cons_succ]
    refine wpAnyH_done (by kernel_rfl) ?_ _
    go_wp2_with (fail)
    go_meet
    case rel => exact ⟨rfl, ⟨HW10.out⟩⟩
   ·have z1 : ((TN : Int) == 0) = false := beq_eq_false_iff_ne.2 (by omega)
    have z2 : (E9 == 9) = false := by rw [HE9.out, if_neg hz]; rfl
    have z3 : decide ((0 : Int) < (TN : Int)) = true := by simp; omega
    have z4 : (0 : Int) < (TN : Int) := by omega
    have z5 : decide (0 < TN) = true := by simp; omega
    have z6 : (E9 != 0) = false := by rw [HE9.out, if_neg hz]; rfl
    clear hz
    refine wp_region_held_drew (S := (fun w' => w'.cell? ⟨g, 0, none⟩ = some (.int .i64 b.origin) ∧ w'.cell? ⟨g, 1, none⟩ = some (.int .i64 b.number) ∧ w'.cell? ⟨g, 2, none⟩ = some (.slice A6 b.mails.length c6) ∧ w'.cell? ⟨w.heap.size, 0, none⟩ = some (.int .i64 b.origin) ∧ w'.cell? ⟨w.heap.size, 1, none⟩ = some (.int .i64 b.number) ∧ w'.cell? ⟨w.heap.size, 2, none⟩ = some (.slice A b.mails.length c) ∧ w'.cell? ⟨gp, 0, none⟩ = some (.int .i64 RB.origin) ∧ w'.cell? ⟨gp, 1, none⟩ = some (.int .i64 RB.number) ∧ w'.cell? ⟨gp, 2, none⟩ = some (.slice A13 RB.mails.length c13) ∧ w'.cell? ⟨gq, 0, none⟩ = some (.int .i64 RB.origin) ∧ w'.cell? ⟨gq, 1, none⟩ = some (.int .i64 RB.number) ∧ w'.cell? ⟨gq, 2, none⟩ = some (.slice A14 RB.mails.length c14))) (by kernel_rfl) ?_ (fun hHeld => ?_)
    ·first | (with_reducible exact HS10.out _ HW10.out) | (with_reducible exact HS10.out _ (Below.refl _ _).drew)
    refine wpAnyH_take (i := 0) (oi := _) (v := ?_) rfl (by kernel_rfl) (by kernel_rfl) (by kernel_rfl) (fun _ _ _ h => h) (Or.inl ⟨by rfl, ?_⟩) (by assumption) ?_
    case refine_2 => (intro w hSw; (try dsimp only [List.getElem_toArray, List.getElem_cons_zero, List.getElem_cons_succ] at hSw ⊢); go_simp; (try with_reducible rfl))
    try simp only [Act.put, List.getElem_toArray, List.getElem_cons_zero, List.getElem_cons_succ, List.setIfInBounds_toArray, List.set_cons_zero, List.set_cons_succ]
    refine wpAnyH_take (i := 3) (oi := _) (v := ?_) rfl (by kernel_rfl) (by kernel_rfl) (by kernel_rfl) (fun _ _ _ h => h) (Or.inl ⟨by rfl, ?_⟩) (by assumption) ?_
    case refine_2 => (intro w hSw; (try dsimp only [List.getElem_toArray, List.getElem_cons_zero, List.getElem_cons_succ] at hSw ⊢); go_simp; (try with_reducible rfl))
    try simp only [Act.put, List.getElem_toArray, List.getElem_cons_zero, List.getElem_cons_succ, List.setIfInBounds_toArray, List.set_cons_zero, List.set_cons_succ]
    refine wpAnyH_ready (rs := [1]) (by kernel_rfl) (by simp) ?_
    refine (AllReadyH.cons (o := _) (by simp only [List.getElem?_toArray, List.getElem?_cons_zero, List.getElem?_cons_succ]; rfl) (fun K hK => ?_) AllReadyH.nil)
    go_simp
    go_at_call 19
    (with_reducible refine Calls.mono (HCK.out _ HW10.out) ?_)
    rintro e wn ⟨rfl, h⟩
    have HWn := Aside0.mk (HW10.out.trans (h.mono HW10.out.size))
    clear HW10 h
    obtain ⟨wm, rfl⟩ : ∃ wz : World, wz = wn := ⟨_, rfl⟩
    have HW10 := Aside0.mk HWn.out
    clear HWn
    go_wp2_with (fail)
    refine hK.out _ _ ?_ (fun hHeld2 => ?_)
    ·first | (with_reducible exact HS10.out _ HW10.out) | (with_reducible exact HS10.out _ (Below.refl _ _).drew)
    clear hK K hHeld
    have hHeld := hHeld2
    clear hHeld2
    try simp only [Act.put, List.getElem_toArray, List.getElem_cons_zero, List.getElem_cons_succ, List.setIfInBounds_toArray, List.set_cons_zero, List.set_cons_succ]
    refine wpAnyH_take (i := 2) (oi := _) (v := ?_) rfl (by kernel_rfl) (by kernel_rfl) (by kernel_rfl) (fun _ _ _ h => h) (Or.inl ⟨by rfl, ?_⟩) (by assumption) ?_
    case refine_2 => (intro w hSw; (try dsimp only [List.getElem_toArray, List.getElem_cons_zero, List.getElem_cons_succ] at hSw ⊢); go_simp; (try with_reducible rfl))
    try simp only [Act.put, List.getElem_toArray, List.getElem_cons_zero, List.getElem_cons_succ, List.setIfInBounds_toArray, List.set_cons_zero, List.set_cons_succ]
    refine wpAnyH_ready (rs := [4]) (by kernel_rfl) (by simp) ?_
    refine (AllReadyH.cons (o := _) (by simp only [List.getElem?_toArray, List.getElem?_cons_zero, List.getElem?_cons_succ]; rfl) (fun K hK => ?_) AllReadyH.nil)
    go_simp
    go_at_call 20
    (with_reducible refine Calls.mono (HRC.out _ HW10.out) ?_)
    rintro e wn ⟨rfl, h⟩
    have HWn := Aside0.mk (HW10.out.trans (h.mono HW10.out.size))
    clear HW10 h
    obtain ⟨wm, rfl⟩ : ∃ wz : World, wz = wn := ⟨_, rfl⟩
    have HW10 := Aside0.mk HWn.out
    clear HWn
    go_wp2_with (fail)
    refine hK.out _ _ ?_ (fun hHeld2 => ?_)
    ·first | (with_reducible exact HS10.out _ HW10.out) | (with_reducible exact HS10.out _ (Below.refl _ _).drew)
    clear hK K hHeld
    have hHeld := hHeld2
    clear hHeld2
    try simp only [Act.put, List.getElem_toArray, List.getElem_cons_zero, List.getElem_cons_succ, List.setIfInBounds_toArray, List.set_cons_zero, List.set_cons_succ]
    refine wpAnyH_take (i := 5) (oi := _) (v := ?_) rfl (by kernel_rfl) (by kernel_rfl) (by kernel_rfl) (fun _ _ _ h => h) (Or.inl ⟨by rfl, ?_⟩) (by assumption) ?_
    case refine_2 => (intro w hSw; (try dsimp only [List.getElem_toArray, List.getElem_cons_zero, List.getElem_cons_succ] at hSw ⊢); go_simp; (try with_reducible rfl))
    try simp only [Act.put, List.getElem_toArray, List.getElem_cons_zero, List.getElem_cons_succ, List.setIfInBounds_toArray, List.set_cons_zero, List.set_cons_succ]
    refine wpAnyH_take (i := 6) (oi := _) (v := ?_) rfl (by kernel_rfl) (by kernel_rfl) (by kernel_rfl) (fun _ _ _ h => h) (Or.inl ⟨by rfl, ?_⟩) (by assumption) ?_
    case refine_2 => (intro w hSw; (try dsimp only [List.getElem_toArray, List.getElem_cons_zero, List.getElem_cons_succ] at hSw ⊢); go_simp; (try with_reducible rfl))
    try simp only [Act.put, List.getElem_toArray, List.getElem_cons_zero, List.getElem_cons_succ, List.setIfInBounds_toArray, List.set_cons_zero, List.set_cons_succ]
    refine wpAnyH_take (i := 7) (oi := _) (v := ?_) rfl (by kernel_rfl) (by kernel_rfl) (by kernel_rfl) (fun _ _ _ h => h) (Or.inl ⟨by rfl, ?_⟩) (by assumption) ?_
    case refine_2 => (intro w hSw; (try dsimp only [List.getElem_toArray, List.getElem_cons_zero, List.getElem_cons_succ] at hSw ⊢); go_simp; (try with_reducible rfl))
    try simp only [Act.put, List.getElem_toArray, List.getElem_cons_zero, List.getElem_cons_succ, List.setIfInBounds_toArray, List.set_cons_zero, List.set_cons_succ]
    refine wpAnyH_take (i := 8) (oi := _) (v := ?_) rfl (by kernel_rfl) (by kernel_rfl) (by kernel_rfl) (fun _ _ _ h => h) (Or.inl ⟨by rfl, ?_⟩) (by assumption) ?_
    case refine_2 => (intro w hSw; (try dsimp only [List.getElem_toArray, List.getElem_cons_zero, List.getElem_cons_succ] at hSw ⊢); go_simp; (try with_reducible rfl))
    try simp only [Act.put, List.getElem_toArray, List.getElem_cons_zero, List.getElem_cons_succ, List.setIfInBounds_toArray, List.set_cons_zero, List.set_cons_succ]
    refine wpAnyH_take (i := 9) (oi := _) (v := ?_) rfl (by kernel_rfl) (by kernel_rfl) (by kernel_rfl) (fun _ _ _ h => h) (Or.inl ⟨by rfl, ?_⟩) (by assumption) ?_
    case refine_2 => (intro w hSw; (try dsimp only [List.getElem_toArray, List.getElem_cons_zero, List.getElem_cons_succ] at hSw ⊢); go_simp; (try with_reducible rfl))
    try simp only [Act.put, List.getElem_toArray, List.getElem_cons_zero, List.getElem_cons_succ, List.setIfInBounds_toArray, List.set_cons_zero, List.set_cons_succ]
    refine wpAnyH_take (i := 10) (oi := _) (v := ?_) rfl (by kernel_rfl) (by kernel_rfl) (by kernel_rfl) (fun _ _ _ h => h) (Or.inl ⟨by rfl, ?_⟩) (by assumption) ?_
    case refine_2 => (intro w hSw; (try dsimp only [List.getElem_toArray, List.getElem_cons_zero, List.getElem_cons_succ] at hSw ⊢); go_simp; (try with_reducible rfl))
    try simp only [Act.put, List.getElem_toArray, List.getElem_cons_zero, List.getElem_cons_succ, List.setIfInBounds_toArray, List.set_cons_zero, List.set_cons_succ]
    refine wpAnyH_take (i := 11) (oi := _) (v := ?_) rfl (by kernel_rfl) (by kernel_rfl) (by kernel_rfl) (fun _ _ _ h => h) (Or.inl ⟨by rfl, ?_⟩) (by assumption) ?_
    case refine_2 => (intro w hSw; (try dsimp only [List.getElem_toArray, List.getElem_cons_zero, List.getElem_cons_succ] at hSw ⊢); go_simp; (try with_reducible rfl))
    try simp only [Act.put, List.getElem_toArray, List.getElem_cons_zero, List.getElem_cons_succ, List.setIfInBounds_toArray, List.set_cons_zero, List.set_cons_succ]
    refine wpAnyH_take (i := 12) (oi := _) (v := ?_) rfl (by kernel_rfl) (by kernel_rfl) (by kernel_rfl) (fun _ _ _ h => h) (Or.inl ⟨by rfl, ?_⟩) (by assumption) ?_
    case refine_2 => (intro w hSw; (try dsimp only [List.getElem_toArray, List.getElem_cons_zero, List.getElem_cons_succ] at hSw ⊢); go_simp; (try with_reducible rfl))
    try simp only [Act.put, List.getElem_toArray, List.getElem_cons_zero, List.getElem_cons_succ, List.setIfInBounds_toArray, List.set_cons_zero, List.set_cons_succ]
    refine wpAnyH_take (i := 13) (oi := _) (v := ?_) rfl (by kernel_rfl) (by kernel_rfl) (by kernel_rfl) (fun _ _ _ h => h) (Or.inl ⟨by rfl, ?_⟩) (by assumption) ?_
    case refine_2 => (intro w hSw; (try dsimp only [List.getElem_toArray, List.getElem_cons_zero, List.getElem_cons_succ] at hSw ⊢); go_simp; (try with_reducible rfl))
    try simp only [Act.put, List.getElem_toArray, List.getElem_cons_zero, List.getElem_cons_succ, List.setIfInBounds_toArray, List.set_cons_zero, List.set_cons_succ]
    refine wpAnyH_ready (rs := [14]) (by kernel_rfl) (by simp) ?_
    refine (AllReadyH.cons (o := _) (by simp only [List.getElem?_toArray, List.getElem?_cons_zero, List.getElem?_cons_succ]; rfl) (fun K hK => ?_) AllReadyH.nil)
    go_simp
    go_at_call 21
    (with_reducible refine Calls.mono (HKB.out _ HW10.out) ?_)
    rintro e wn ⟨rfl, h⟩
    have HWn := Aside0.mk (HW10.out.trans (h.mono HW10.out.size))
    clear HW10 h
    obtain ⟨wm, rfl⟩ : ∃ wz : World, wz = wn := ⟨_, rfl⟩
    have HW10 := Aside0.mk HWn.out
    clear HWn
    go_wp2_with (fail)
    refine hK.out _ _ ?_ (fun hHeld2 => ?_)
    ·first | (with_reducible exact HS10.out _ HW10.out) | (with_reducible exact HS10.out _ (Below.refl _ _).drew)
    clear hK K hHeld
    have hHeld := hHeld2
    clear hHeld2
    try simp only [Act.put, List.getElem_toArray, List.getElem_cons_zero, List.getElem_cons_succ, List.setIfInBounds_toArray, List.set_cons_zero, List.set_cons_succ]
    refine wpAnyH_take (i := 15) (oi := _) (v := ?_) rfl (by kernel_rfl) (by kernel_rfl) (by kernel_rfl) (fun _ _ _ h => h) (Or.inl ⟨by rfl, ?_⟩) (by assumption) ?_
    case refine_2 => (intro w hSw; (try dsimp only [List.getElem_toArray, List.getElem_cons_zero, List.getElem_cons_succ] at hSw ⊢); go_simp; (try with_reducible rfl))
    try simp only [Act.put, List.getElem_toArray, List.getElem_cons_zero, List.getElem_cons_succ, List.setIfInBounds_toArray, List.set_cons_zero, List.set_cons_succ]
    refine wpAnyH_take (i := 16) (oi := _) (v := ?_) rfl (by kernel_rfl) (by kernel_rfl) (by kernel_rfl) (fun _ _ _ h => h) (Or.inl ⟨by rfl, ?_⟩) (by assumption) ?_
    case refine_2 => (intro w hSw; (try dsimp only [List.getElem_toArray, List.getElem_cons_zero, List.getElem_cons_succ] at hSw ⊢); go_simp; (try with_reducible rfl))
    try simp only [Act.put, List.getElem_toArray, List.getElem_cons_zero, List.getElem_cons_succ, List.setIfInBounds_toArray, List.set_cons_zero, List.set_cons_succ]
    refine wpAnyH_take (i := 17) (oi := _) (v := ?_) rfl (by kernel_rfl) (by kernel_rfl) (by kernel_rfl) (fun _ _ _ h => h) (Or.inl ⟨by rfl, ?_⟩) (by assumption) ?_
    case refine_2 => (intro w hSw; (try dsimp only [List.getElem_toArray, List.getElem_cons_zero, List.getElem_cons_succ] at hSw ⊢); go_simp; (try with_reducible rfl))
    try simp only [Act.put, List.getElem_toArray, List.getElem_cons_zero, List.getElem_cons_succ, List.setIfInBounds_toArray, List.set_cons_zero, List.set_cons_succ]
    refine wpAnyH_take (i := 18) (oi := _) (v := ?_) rfl (by kernel_rfl) (by kernel_rfl) (by kernel_rfl) (fun _ _ _ h => h) (Or.inl ⟨by rfl, ?_⟩) (by assumption) ?_
    case refine_2 => (intro w hSw; (try dsimp only [List.getElem_toArray, List.getElem_cons_zero, List.getElem_cons_succ] at hSw ⊢); go_simp; (try with_reducible rfl))
    try simp only [Act.put, List.getElem_toArray, List.getElem_cons_zero, List.getElem_cons_succ, List.setIfInBounds_toArray, List.set_cons_zero, List.set_cons_succ]
    refine wpAnyH_take (i := 19) (oi := _) (v := ?_) rfl (by kernel_rfl) (by kernel_rfl) (by kernel_rfl) (fun _ _ _ h => h) (Or.inl ⟨by rfl, ?_⟩) (by assumption) ?_
    case refine_2 => (intro w hSw; (try dsimp only [List.getElem_toArray, List.getElem_cons_zero, List.getElem_cons_succ] at hSw ⊢); go_simp; (try with_reducible rfl))
    try simp only [Act.put, List.getElem_toArray, List.getElem_cons_zero, List.getElem_cons_succ, List.setIfInBounds_toArray, List.set_cons_zero, List.set_cons_succ]
    refine wpAnyH_take (i := 20) (oi := _) (v := ?_) rfl (by kernel_rfl) (by kernel_rfl) (by kernel_rfl) (fun _ _ _ h => h) (Or.inl ⟨by rfl, ?_⟩) (by assumption) ?_
    case refine_2 => (intro w hSw; (try dsimp only [List.getElem_toArray, List.getElem_cons_zero, List.getElem_cons_succ] at hSw ⊢); go_simp; (try with_reducible rfl))
    try simp only [Act.put, List.getElem_toArray, List.getElem_cons_zero, List.getElem_cons_succ, List.setIfInBounds_toArray, List.set_cons_zero, List.set_cons_succ]
    refine wpAnyH_take (i := 21) (oi := _) (v := ?_) rfl (by kernel_rfl) (by kernel_rfl) (by kernel_rfl) (fun _ _ _ h => h) (Or.inl ⟨by rfl, ?_⟩) (by assumption) ?_
    case refine_2 => (intro w hSw; (try dsimp only [List.getElem_toArray, List.getElem_cons_zero, List.getElem_cons_succ] at hSw ⊢); go_simp; (try with_reducible rfl))
    try simp only [Act.put, List.getElem_toArray, List.getElem_cons_zero, List.getElem_cons_succ, List.setIfInBounds_toArray, List.set_cons_zero, List.set_cons_succ]
    refine wpAnyH_take (i := 22) (oi := _) (v := ?_) rfl (by kernel_rfl) (by kernel_rfl) (by kernel_rfl) (fun _ _ _ h => h) (Or.inl ⟨by rfl, ?_⟩) (by assumption) ?_
    case refine_2 => (intro w hSw; (try dsimp only [List.getElem_toArray, List.getElem_cons_zero, List.getElem_cons_succ] at hSw ⊢); go_simp; (try with_reducible rfl))
    try simp only [Act.put, List.getElem_toArray, List.getElem_cons_zero, List.getElem_cons_succ, List.setIfInBounds_toArray, List.set_cons_zero, List.set_cons_succ]
    refine wpAnyH_take (i := 23) (oi := _) (v := ?_) rfl (by kernel_rfl) (by kernel_rfl) (by kernel_rfl) (fun _ _ _ h => h) (Or.inl ⟨by rfl, ?_⟩) (by assumption) ?_
    case refine_2 => (intro w hSw; (try dsimp only [List.getElem_toArray, List.getElem_cons_zero, List.getElem_cons_succ] at hSw ⊢); go_simp; (try with_reducible rfl))
    try simp only [Act.put, List.getElem_toArray, List.getElem_cons_zero, List.getElem_cons_succ, List.setIfInBounds_toArray, List.set_cons_zero, List.set_cons_succ]
    refine wpAnyH_take (i := 24) (oi := _) (v := ?_) rfl (by kernel_rfl) (by kernel_rfl) (by kernel_rfl) (fun _ _ _ h => h) (Or.inl ⟨by rfl, ?_⟩) (by assumption) ?_
    case refine_2 => (intro w hSw; (try dsimp only [List.getElem_toArray, List.getElem_cons_zero, List.getElem_cons_succ] at hSw ⊢); go_simp; (try with_reducible rfl))
    try simp only [Act.put, List.getElem_toArray, List.getElem_cons_zero, List.getElem_cons_succ, List.setIfInBounds_toArray, List.set_cons_zero, List.set_cons_succ]
    refine wpAnyH_ready (rs := [25]) (by kernel_rfl) (by simp) ?_
    refine (AllReadyH.cons (o := _) (by simp only [List.getElem?_toArray, List.getElem?_cons_zero, List.getElem?_cons_succ]; rfl) (fun K hK => ?_) AllReadyH.nil)
    go_simp
    go_at_call 22
    (with_reducible refine Calls.mono (HKU.out _ HW10.out) ?_)
    rintro e wn ⟨rfl, h⟩
    have HWn := Aside0.mk (HW10.out.trans (h.mono HW10.out.size))
    clear HW10 h
    obtain ⟨wm, rfl⟩ : ∃ wz : World, wz = wn := ⟨_, rfl⟩
    have HW10 := Aside0.mk HWn.out
    clear HWn
    go_wp2_with (fail)
    refine hK.out _ _ ?_ (fun hHeld2 => ?_)
    ·first | (with_reducible exact HS10.out _ HW10.out) | (with_reducible exact HS10.out _ (Below.refl _ _).drew)
    clear hK K hHeld
    have hHeld := hHeld2
    clear hHeld2
    try simp only [Act.put, List.getElem_toArray, List.getElem_cons_zero, List.getElem_cons_succ, List.setIfInBounds_toArray, List.set_cons_zero, List.set_cons_succ]
    refine wpAnyH_take (i := 26) (oi := _) (v := ?_) rfl (by kernel_rfl) (by kernel_rfl) (by kernel_rfl) (fun _ _ _ h => h) (Or.inl ⟨by rfl, ?_⟩) (by assumption) ?_
    case refine_2 => (intro w hSw; (try dsimp only [List.getElem_toArray, List.getElem_cons_zero, List.getElem_cons_succ] at hSw ⊢); go_simp; (try with_reducible rfl))
    try simp only [Act.put, List.getElem_toArray, List.getElem_cons_zero, List.getElem_cons_succ, List.setIfInBounds_toArray, List.set_cons_zero, List.set_cons_succ]
    refine wpAnyH_take (i := 27) (oi := _) (v := ?_) rfl (by kernel_rfl) (by kernel_rfl) (by kernel_rfl) (fun _ _ _ h => h) (Or.inl ⟨by rfl, ?_⟩) (by assumption) ?_
    case refine_2 => (intro w hSw; (try dsimp only [List.getElem_toArray, List.getElem_cons_zero, List.getElem_cons_succ] at hSw ⊢); go_simp; (try with_reducible rfl))
    try simp only [Act.put, List.getElem_toArray, List.getElem_cons_zero, List.getElem_cons_succ, List.setIfInBounds_toArray, List.set_cons_zero, List.set_cons_succ]
    refine wpAnyH_take (i := 28) (oi := _) (v := ?_) rfl (by kernel_rfl) (by kernel_rfl) (by kernel_rfl) (fun _ _ _ h => h) (Or.inl ⟨by rfl, ?_⟩) (by assumption) ?_
    case refine_2 => (intro w hSw; (try dsimp only [List.getElem_toArray, List.getElem_cons_zero, List.getElem_cons_succ] at hSw ⊢); go_simp; (try with_reducible rfl))
    try simp only [Act.put, List.getElem_toArray, List.getElem_cons_zero, List.getElem_cons_succ, List.setIfInBounds_toArray, List.set_cons_zero, List.set_cons_succ]
    refine wpAnyH_take (i := 29) (oi := _) (v := ?_) rfl (by kernel_rfl) (by kernel_rfl) (by kernel_rfl) (fun _ _ _ h => h) (Or.inl ⟨by rfl, ?_⟩) (by assumption) ?_
    case refine_2 => (intro w hSw; (try dsimp only [List.getElem_toArray, List.getElem_cons_zero, List.getElem_cons_succ] at hSw ⊢); go_simp; (try with_reducible rfl))
    try simp only [Act.put, List.getElem_toArray, List.getElem_cons_zero, List.getElem_cons_succ, List.setIfInBounds_toArray, List.set_cons_zero, List.set_cons_succ]
    refine wpAnyH_take (i := 30) (oi := _) (v := ?_) rfl (by kernel_rfl) (by kernel_rfl) (by kernel_rfl) (fun _ _ _ h => h) (Or.inl ⟨by rfl, ?_⟩) (by assumption) ?_
    case refine_2 => (intro w hSw; (try dsimp only [List.getElem_toArray, List.getElem_cons_zero, List.getElem_cons_succ] at hSw ⊢); go_simp; (try with_reducible rfl))
    try simp only [Act.put, List.getElem_toArray, List.getElem_cons_zero, List.getElem_cons_succ, List.setIfInBounds_toArray, List.set_cons_zero, List.set_cons_succ]
    refine wpAnyH_take (i := 31) (oi := _) (v := ?_) rfl (by kernel_rfl) (by kernel_rfl) (by kernel_rfl) (fun _ _ _ h => h) (Or.inl ⟨by rfl, ?_⟩) (by assumption) ?_
    case refine_2 => (intro w hSw; (try dsimp only [List.getElem_toArray, List.getElem_cons_zero, List.getElem_cons_succ] at hSw ⊢); go_simp; (try with_reducible rfl))
    try simp only [Act.put, List.getElem_toArray, List.getElem_cons_zero, List.getElem_cons_succ, List.setIfInBounds_toArray, List.set_cons_zero, List.set_cons_succ]
    refine wpAnyH_take (i := 32) (oi := _) (v := ?_) rfl (by kernel_rfl) (by kernel_rfl) (by kernel_rfl) (fun _ _ _ h => h) (Or.inl ⟨by rfl, ?_⟩) (by assumption) ?_
    case refine_2 => (intro w hSw; (try dsimp only [List.getElem_toArray, List.getElem_cons_zero, List.getElem_cons_succ] at hSw ⊢); go_simp; (try with_reducible rfl))
    try simp only [Act.put, List.getElem_toArray, List.getElem_cons_zero, List.getElem_cons_succ, List.setIfInBounds_toArray, List.set_cons_zero, List.set_cons_succ]
    refine wpAnyH_take (i := 33) (oi := _) (v := ?_) rfl (by kernel_rfl) (by kernel_rfl) (by kernel_rfl) (fun _ _ _ h => h) (Or.inl ⟨by rfl, ?_⟩) (by assumption) ?_
    case refine_2 => (intro w hSw; (try dsimp only [List.getElem_toArray, List.getElem_cons_zero, List.getElem_cons_succ] at hSw ⊢); go_simp; (try with_reducible rfl))
    try simp only [Act.put, List.getElem_toArray, List.getElem_cons_zero, List.getElem_cons_succ, List.setIfInBounds_toArray, List.set_cons_zero, List.set_cons_succ]
    refine wpAnyH_take (i := 34) (oi := _) (v := ?_) rfl (by kernel_rfl) (by kernel_rfl) (by kernel_rfl) (fun _ _ _ h => h) (Or.inl ⟨by rfl, ?_⟩) (by assumption) ?_
    case refine_2 => (intro w hSw; (try dsimp only [List.getElem_toArray, List.getElem_cons_zero, List.getElem_cons_succ] at hSw ⊢); go_simp; (try with_reducible rfl))
    try simp only [Act.put, List.getElem_toArray, List.getElem_cons_zero, List.getElem_cons_succ, List.setIfInBounds_toArray, List.set_cons_zero, List.set_cons_succ]
    refine wpAnyH_take (i := 35) (oi := _) (v := ?_) rfl (by kernel_rfl) (by kernel_rfl) (by kernel_rfl) (fun _ _ _ h => h) (Or.inl ⟨by rfl, ?_⟩) (by assumption) ?_
    case refine_2 => (intro w hSw; (try dsimp only [List.getElem_toArray, List.getElem_cons_zero, List.getElem_cons_succ] at hSw ⊢); go_simp; (try with_reducible rfl))
    try simp only [Act.put, List.getElem_toArray, List.getElem_cons_zero, List.getElem_cons_succ, List.setIfInBounds_toArray, List.set_cons_zero, List.set_cons_succ]
    refine wpAnyH_take (i := 36) (oi := _) (v := ?_) rfl (by kernel_rfl) (by kernel_rfl) (by kernel_rfl) (fun _ _ _ h => h) (Or.inl ⟨by rfl, ?_⟩) (by assumption) ?_
    case refine_2 => (intro w hSw; (try dsimp only [List.getElem_toArray, List.getElem_cons_zero, List.getElem_cons_succ] at hSw ⊢); go_simp; (try with_reducible rfl))
    try simp only [Act.put, List.getElem_toArray, List.getElem_cons_zero, List.getElem_cons_succ, List.setIfInBounds_toArray, List.set_cons_zero, List.set_cons_succ]
    refine wpAnyH_take (i := 37) (oi := _) (v := ?_) rfl (by kernel_rfl) (by kernel_rfl) (by kernel_rfl) (fun _ _ _ h => h) (Or.inl ⟨by rfl, ?_⟩) (by assumption) ?_
    case refine_2 => (intro w hSw; (try dsimp only [List.getElem_toArray, List.getElem_cons_zero, List.getElem_cons_succ] at hSw ⊢); go_simp; (try with_reducible rfl))
    try simp only [Act.put, List.getElem_toArray, List.getElem_cons_zero, List.getElem_cons_succ, List.setIfInBounds_toArray, List.set_cons_zero, List.set_cons_succ]
    refine wpAnyH_take (i := 38) (oi := _) (v := ?_) rfl (by kernel_rfl) (by kernel_rfl) (by kernel_rfl) (fun _ _ _ h => h) (Or.inl ⟨by rfl, ?_⟩) (by assumption) ?_
    case refine_2 => (intro w hSw; (try dsimp only [List.getElem_toArray, List.getElem_cons_zero, List.getElem_cons_succ] at hSw ⊢); go_simp; (try with_reducible rfl))
    try simp only [Act.put, List.getElem_toArray, List.getElem_cons_zero, List.getElem_cons_succ, List.setIfInBounds_toArray, List.set_cons_zero, List.set_cons_succ]
    refine wpAnyH_take (i := 39) (oi := _) (v := ?_) rfl (by kernel_rfl) (by kernel_rfl) (by kernel_rfl) (fun _ _ _ h => h) (Or.inl ⟨by rfl, ?_⟩) (by assumption) ?_
    case refine_2 => (intro w hSw; (try dsimp only [List.getElem_toArray, List.getElem_cons_zero, List.getElem_cons_succ] at hSw ⊢); go_simp; (try with_reducible rfl))
    try simp only [Act.put, List.getElem_toArray, List.getElem_cons_zero, List.getElem_cons_succ, List.setIfInBounds_toArray, List.set_cons_zero, List.set_cons_succ]
    refine wpAnyH_take (i := 40) (oi := _) (v := ?_) rfl (by kernel_rfl) (by kernel_rfl) (by kernel_rfl) (fun _ _ _ h => h) (Or.inl ⟨by rfl, ?_⟩) (by assumption) ?_
    case refine_2 => (intro w hSw; (try dsimp only [List.getElem_toArray, List.getElem_cons_zero, List.getElem_cons_succ] at hSw ⊢); go_simp; (try with_reducible rfl))
    try simp only [Act.put, List.getElem_toArray, List.getElem_cons_zero, List.getElem_cons_succ, List.setIfInBounds_toArray, List.set_cons_zero, List.set_cons_succ]
    refine wpAnyH_take (i := 41) (oi := _) (v := ?_) rfl (by kernel_rfl) (by kernel_rfl) (by kernel_rfl) (fun _ _ _ h => h) (Or.inl ⟨by rfl, ?_⟩) (by assumption) ?_
    case refine_2 => (intro w hSw; (try dsimp only [List.getElem_toArray, List.getElem_cons_zero, List.getElem_cons_succ] at hSw ⊢); go_simp; (try with_reducible rfl))
    try simp only [Act.put, List.getElem_toArray, List.getElem_cons_zero, List.getElem_cons_succ, List.setIfInBounds_toArray, List.set_cons_zero, List.set_cons_succ]
    refine wpAnyH_take (i := 42) (oi := _) (v := ?_) rfl (by kernel_rfl) (by kernel_rfl) (by kernel_rfl) (fun _ _ _ h => h) (Or.inl ⟨by rfl, ?_⟩) (by assumption) ?_
    case refine_2 => (intro w hSw; (try dsimp only [List.getElem_toArray, List.getElem_cons_zero, List.getElem_cons_succ] at hSw ⊢); go_simp; (try with_reducible rfl))
    try simp only [Act.put, List.getElem_toArray, List.getElem_cons_zero, List.getElem_cons_succ, List.setIfInBounds_toArray, List.set_cons_zero, List.set_cons_succ]
    refine wpAnyH_take (i := 43) (oi := _) (v := ?_) rfl (by kernel_rfl) (by kernel_rfl) (by kernel_rfl) (fun _ _ _ h => h) (Or.inl ⟨by rfl, ?_⟩) (by assumption) ?_
    case refine_2 => (intro w hSw; (try dsimp only [List.getElem_toArray, List.getElem_cons_zero, List.getElem_cons_succ] at hSw ⊢); go_simp; (try with_reducible rfl))
    try simp only [Act.put, List.getElem_toArray, List.getElem_cons_zero, List.getElem_cons_succ, List.setIfInBounds_toArray, List.set_cons_zero, List.set_cons_succ]
    refine wpAnyH_take (i := 44) (oi := _) (v := ?_) rfl (by kernel_rfl) (by kernel_rfl) (by kernel_rfl) (fun _ _ _ h => h) (Or.inl ⟨by rfl, ?_⟩) (by assumption) ?_
    case refine_2 => (intro w hSw; (try dsimp only [List.getElem_toArray, List.getElem_cons_zero, List.getElem_cons_succ] at hSw ⊢); go_simp; (try with_reducible rfl))
    try simp only [Act.put, List.getElem_toArray, List.getElem_cons_zero, List.getElem_cons_succ, List.setIfInBounds_toArray, List.set_cons_zero, List.set_cons_succ]
    refine wpAnyH_take (i := 45) (oi := _) (v := ?_) rfl (by kernel_rfl) (by kernel_rfl) (by kernel_rfl) (fun _ _ _ h => h) (Or.inl ⟨by rfl, ?_⟩) (by assumption) ?_
    case refine_2 => (intro w hSw; (try dsimp only [List.getElem_toArray, List.getElem_cons_zero, List.getElem_cons_succ] at hSw ⊢); go_simp; (try with_reducible rfl))
    try simp only [Act.put, List.getElem_toArray, List.getElem_cons_zero, List.getElem_cons_succ, List.setIfInBounds_toArray, List.set_cons_zero, List.set_cons_succ]
    refine wpAnyH_take (i := 46) (oi := _) (v := ?_) rfl (by kernel_rfl) (by kernel_rfl) (by kernel_rfl) (fun _ _ _ h => h) (Or.inl ⟨by rfl, ?_⟩) (by assumption) ?_
    case refine_2 => (intro w hSw; (try dsimp only [List.getElem_toArray, List.getElem_cons_zero, List.getElem_cons_succ] at hSw ⊢); go_simp; (try with_reducible rfl))
    try simp only [Act.put, List.getElem_toArray, List.getElem_cons_zero, List.getElem_cons_succ, List.setIfInBounds_toArray, List.set_cons_zero, List.set_cons_succ]
    refine wpAnyH_take (i := 47) (oi := _) (v := ?_) rfl (by kernel_rfl) (by kernel_rfl) (by kernel_rfl) (fun _ _ _ h => h) (Or.inl ⟨by rfl, ?_⟩) (by assumption) ?_
    case refine_2 => (intro w hSw; (try dsimp only [List.getElem_toArray, List.getElem_cons_zero, List.getElem_cons_succ] at hSw ⊢); go_simp; (try with_reducible rfl))
    try simp only [Act.put, List.getElem_toArray, List.getElem_cons_zero, List.getElem_cons_succ, List.setIfInBounds_toArray, List.set_cons_zero, List.set_cons_succ]
    refine wpAnyH_done (by kernel_rfl) ?_ _
    go_wp2_with (fail)
    go_meet
    case rel => exact ⟨rfl, ⟨HW10.out⟩⟩
  case rest =>
  obtain ⟨rfl, HWd⟩ := hcut
  obtain ⟨v9, rfl⟩ : ∃ wz : World, wz = wc := ⟨_, rfl⟩
  apply_assumption
  have HV9 := Aside0.mk (HV8.out.trans (HWd.out.mono HV8.out.size))
  have HL9 := Aside0.mk (Kd.C_below HLc.out.2 HV9.out)
  have HX9 := Aside0.mk (Kd.C_below HX0.out HV9.out)
  clear HX8 HY8 HP8 HQ8 HS10 HCK HRC HKB HKU k1 k2 k3 k4 k5
  have hll : l.length ≤ 1000 := HFL.out.1
  go_wp2_with (fail)
  go_loopg [25] l.length (fun gf v25 wr => ∃ j : Nat, v25 = .int .i64 (j : Int) ∧ j ≤ l.length ∧ gf + j = l.length ∧ Aside0 (Below v9.heap.size v9 wr))
  case atStart => exact ⟨0, rfl, Nat.zero_le _, rfl, ⟨Below.refl _ _⟩⟩
  case round =>
   obtain ⟨j, rfl, hj, hgj, HJ⟩ := hrel
   obtain ⟨wj, rfl⟩ : ∃ wz : World, wz = wr := ⟨_, rfl⟩
   by_cases hlt : j < l.length
   ·obtain ⟨m, hm⟩ : ∃ m, m = l.getD j B.noMail := ⟨_, rfl⟩
    obtain ⟨ad, A15, c15, A16, c16, rfl, hmc, hml⟩ := mail_at HL9.out j hlt m hm
    obtain ⟨ad2, A17, c17, A18, c18, rfl, hmc2, hml2⟩ := mail_at HX9.out j hlt m hm
    have hfm : B.Fit m := HFL.out.2 m (by rw [hm]; exact getD_mem l j hlt _)
    have HKM := Aside0.mk (show ∀ W, Below wj.heap.size wj W → Calls Tryz.prog 23 #[.agg #[.bool m.frm.null, .string (str m.frm.loc), .string (str m.frm.dom), .slice A15 m.to.length c15, .slice A16 m.body.length c16, .bool m.quiet, .string (str m.helo), .int .i64 m.tm], .agg #[.bool m.frm.null, .string (str m.frm.loc), .string (str m.frm.dom), .slice A17 m.to.length c17, .slice A18 m.body.length c18, .bool m.quiet, .string (str m.helo), .int .i64 m.tm]] W fun e w' => e = .returned (.bool true) ∧ Below W.heap.size W w' from fun W hW => by
     have h := kmail_any m m A15 c15 A16 c16 A17 c17 A18 c18 W ((hml.on HJ.out).on hW) ((hml2.on HJ.out).on hW) hfm hfm
     rw [decide_eq_true (rfl : m = m)] at h
     exact h)
    have HS15 := Aside0.mk (fun W (hW : Below wj.heap.size wj W) => (show W.cell? (ad.add (j * 8)) = some (.bool m.frm.null) ∧ W.cell? ⟨(ad.add (j * 8)).block, (ad.add (j * 8)).off + 1, none⟩ = some (.string (str m.frm.loc)) ∧ W.cell? ⟨(ad.add (j * 8)).block, (ad.add (j * 8)).off + 2, none⟩ = some (.string (str m.frm.dom)) ∧ W.cell? ⟨(ad.add (j * 8)).block, (ad.add (j * 8)).off + 3, none⟩ = some (.slice A15 m.to.length c15) ∧ W.cell? ⟨(ad.add (j * 8)).block, (ad.add (j * 8)).off + 4, none⟩ = some (.slice A16 m.body.length c16) ∧ W.cell? ⟨(ad.add (j * 8)).block, (ad.add (j * 8)).off + 5, none⟩ = some (.bool m.quiet) ∧ W.cell? ⟨(ad.add (j * 8)).block, (ad.add (j * 8)).off + 6, none⟩ = some (.string (str m.helo)) ∧ W.cell? ⟨(ad.add (j * 8)).block, (ad.add (j * 8)).off + 7, none⟩ = some (.int .i64 m.tm) ∧ W.cell? (ad2.add (j * 8)) = some (.bool m.frm.null) ∧ W.cell? ⟨(ad2.add (j * 8)).block, (ad2.add (j * 8)).off + 1, none⟩ = some (.string (str m.frm.loc)) ∧ W.cell? ⟨(ad2.add (j * 8)).block, (ad2.add (j * 8)).off + 2, none⟩ = some (.string (str m.frm.dom)) ∧ W.cell? ⟨(ad2.add (j * 8)).block, (ad2.add (j * 8)).off + 3, none⟩ = some (.slice A17 m.to.length c17) ∧ W.cell? ⟨(ad2.add (j * 8)).block, (ad2.add (j * 8)).off + 4, none⟩ = some (.slice A18 m.body.length c18) ∧ W.cell? ⟨(ad2.add (j * 8)).block, (ad2.add (j * 8)).off + 5, none⟩ = some (.bool m.quiet) ∧ W.cell? ⟨(ad2.add (j * 8)).block, (ad2.add (j * 8)).off + 6, none⟩ = some (.string (str m.helo)) ∧ W.cell? ⟨(ad2.add (j * 8)).block, (ad2.add (j * 8)).off + 7, none⟩ = some (.int .i64 m.tm) from by
     obtain ⟨x0, x1, x2, x3, x4, x5, x6, x7⟩ := (hmc.on HJ.out).on hW
     obtain ⟨y0, y1, y2, y3, y4, y5, y6, y7⟩ := (hmc2.on HJ.out).on hW
     exact ⟨x0, x1, x2, x3, x4, x5, x6, x7, y0, y1, y2, y3, y4, y5, y6, y7⟩))
    have hltI : (j : Int) < (l.length : Int) := by omega
    have hj0 : (0 : Int) ≤ (j : Int) := by omega
    have HW15 := Aside0.mk (show Below wj.heap.size wj wj.drew from (Below.refl _ _).drew)
    clear hm hmc hml hmc2 hml2 hfm
    go_upto_region 15 with (fail)
    refine wp_region_held_drew (S := (fun w' => w'.cell? (ad.add (j * 8)) = some (.bool m.frm.null) ∧ w'.cell? ⟨(ad.add (j * 8)).block, (ad.add (j * 8)).off + 1, none⟩ = some (.string (str m.frm.loc)) ∧ w'.cell? ⟨(ad.add (j * 8)).block, (ad.add (j * 8)).off + 2, none⟩ = some (.string (str m.frm.dom)) ∧ w'.cell? ⟨(ad.add (j * 8)).block, (ad.add (j * 8)).off + 3, none⟩ = some (.slice A15 m.to.length c15) ∧ w'.cell? ⟨(ad.add (j * 8)).block, (ad.add (j * 8)).off + 4, none⟩ = some (.slice A16 m.body.length c16) ∧ w'.cell? ⟨(ad.add (j * 8)).block, (ad.add (j * 8)).off + 5, none⟩ = some (.bool m.quiet) ∧ w'.cell? ⟨(ad.add (j * 8)).block, (ad.add (j * 8)).off + 6, none⟩ = some (.string (str m.helo)) ∧ w'.cell? ⟨(ad.add (j * 8)).block, (ad.add (j * 8)).off + 7, none⟩ = some (.int .i64 m.tm) ∧ w'.cell? (ad2.add (j * 8)) = some (.bool m.frm.null) ∧ w'.cell? ⟨(ad2.add (j * 8)).block, (ad2.add (j * 8)).off + 1, none⟩ = some (.string (str m.frm.loc)) ∧ w'.cell? ⟨(ad2.add (j * 8)).block, (ad2.add (j * 8)).off + 2, none⟩ = some (.string (str m.frm.dom)) ∧ w'.cell? ⟨(ad2.add (j * 8)).block, (ad2.add (j * 8)).off + 3, none⟩ = some (.slice A17 m.to.length c17) ∧ w'.cell? ⟨(ad2.add (j * 8)).block, (ad2.add (j * 8)).off + 4, none⟩ = some (.slice A18 m.body.length c18) ∧ w'.cell? ⟨(ad2.add (j * 8)).block, (ad2.add (j * 8)).off + 5, none⟩ = some (.bool m.quiet) ∧ w'.cell? ⟨(ad2.add (j * 8)).block, (ad2.add (j * 8)).off + 6, none⟩ = some (.string (str m.helo)) ∧ w'.cell? ⟨(ad2.add (j * 8)).block, (ad2.add (j * 8)).off + 7, none⟩ = some (.int .i64 m.tm))) (by kernel_rfl) ?_ (fun hHeld => ?_)
    ·first | (with_reducible exact HS15.out _ HW15.out) | (with_reducible exact HS15.out _ (Below.refl _ _).drew)
    refine wpAnyH_take (i := 0) (oi := _) (v := ?_) rfl (by kernel_rfl) (by kernel_rfl) (by kernel_rfl) (fun _ _ _ h => h) (Or.inl ⟨by rfl, ?_⟩) (by assumption) ?_
    case refine_2 => (intro w hSw; (try dsimp only [List.getElem_toArray, List.getElem_cons_zero, List.getElem_cons_succ] at hSw ⊢); go_simp; (try with_reducible rfl))
    try simp only [Act.put, List.getElem_toArray, List.getElem_cons_zero, List.getElem_cons_succ, List.setIfInBounds_toArray, List.set_cons_zero, List.set_cons_succ]
    refine wpAnyH_take (i := 1) (oi := _) (v := ?_) rfl (by kernel_rfl) (by kernel_rfl) (by kernel_rfl) (fun _ _ _ h => h) (Or.inl ⟨by rfl, ?_⟩) (by assumption) ?_
    case refine_2 => (intro w hSw; (try dsimp only [List.getElem_toArray, List.getElem_cons_zero, List.getElem_cons_succ] at hSw ⊢); go_simp; (try with_reducible rfl))
    try simp only [Act.put, List.getElem_toArray, List.getElem_cons_zero, List.getElem_cons_succ, List.setIfInBounds_toArray, List.set_cons_zero, List.set_cons_succ]
    refine wpAnyH_take (i := 2) (oi := _) (v := ?_) rfl (by kernel_rfl) (by kernel_rfl) (by kernel_rfl) (fun _ _ _ h => h) (Or.inl ⟨by rfl, ?_⟩) (by assumption) ?_
    case refine_2 => (intro w hSw; (try dsimp only [List.getElem_toArray, List.getElem_cons_zero, List.getElem_cons_succ] at hSw ⊢); go_simp; (try with_reducible rfl))
    try simp only [Act.put, List.getElem_toArray, List.getElem_cons_zero, List.getElem_cons_succ, List.setIfInBounds_toArray, List.set_cons_zero, List.set_cons_succ]
    refine wpAnyH_take (i := 3) (oi := _) (v := ?_) rfl (by kernel_rfl) (by kernel_rfl) (by kernel_rfl) (fun _ _ _ h => h) (Or.inl ⟨by rfl, ?_⟩) (by assumption) ?_
    case refine_2 => (intro w hSw; (try dsimp only [List.getElem_toArray, List.getElem_cons_zero, List.getElem_cons_succ] at hSw ⊢); go_simp; (try with_reducible rfl))
    try simp only [Act.put, List.getElem_toArray, List.getElem_cons_zero, List.getElem_cons_succ, List.setIfInBounds_toArray, List.set_cons_zero, List.set_cons_succ]
    refine wpAnyH_take (i := 4) (oi := _) (v := ?_) rfl (by kernel_rfl) (by kernel_rfl) (by kernel_rfl) (fun _ _ _ h => h) (Or.inl ⟨by rfl, ?_⟩) (by assumption) ?_
    case refine_2 => (intro w hSw; (try dsimp only [List.getElem_toArray, List.getElem_cons_zero, List.getElem_cons_succ] at hSw ⊢); go_simp; (try with_reducible rfl))
    try simp only [Act.put, List.getElem_toArray, List.getElem_cons_zero, List.getElem_cons_succ, List.setIfInBounds_toArray, List.set_cons_zero, List.set_cons_succ]
    refine wpAnyH_take (i := 5) (oi := _) (v := ?_) rfl (by kernel_rfl) (by kernel_rfl) (by kernel_rfl) (fun _ _ _ h => h) (Or.inl ⟨by rfl, ?_⟩) (by assumption) ?_
    case refine_2 => (intro w hSw; (try dsimp only [List.getElem_toArray, List.getElem_cons_zero, List.getElem_cons_succ] at hSw ⊢); go_simp; (try with_reducible rfl))
    try simp only [Act.put, List.getElem_toArray, List.getElem_cons_zero, List.getElem_cons_succ, List.setIfInBounds_toArray, List.set_cons_zero, List.set_cons_succ]
    refine wpAnyH_take (i := 6) (oi := _) (v := ?_) rfl (by kernel_rfl) (by kernel_rfl) (by kernel_rfl) (fun _ _ _ h => h) (Or.inl ⟨by rfl, ?_⟩) (by assumption) ?_
    case refine_2 => (intro w hSw; (try dsimp only [List.getElem_toArray, List.getElem_cons_zero, List.getElem_cons_succ] at hSw ⊢); go_simp; (try with_reducible rfl))
    try simp only [Act.put, List.getElem_toArray, List.getElem_cons_zero, List.getElem_cons_succ, List.setIfInBounds_toArray, List.set_cons_zero, List.set_cons_succ]
    refine wpAnyH_take (i := 7) (oi := _) (v := ?_) rfl (by kernel_rfl) (by kernel_rfl) (by kernel_rfl) (fun _ _ _ h => h) (Or.inl ⟨by rfl, ?_⟩) (by assumption) ?_
    case refine_2 => (intro w hSw; (try dsimp only [List.getElem_toArray, List.getElem_cons_zero, List.getElem_cons_succ] at hSw ⊢); go_simp; (try with_reducible rfl))
    try simp only [Act.put, List.getElem_toArray, List.getElem_cons_zero, List.getElem_cons_succ, List.setIfInBounds_toArray, List.set_cons_zero, List.set_cons_succ]
    refine wpAnyH_ready (rs := [8]) (by kernel_rfl) (by simp) ?_
    refine (AllReadyH.cons (o := _) (by simp only [List.getElem?_toArray, List.getElem?_cons_zero, List.getElem?_cons_succ]; rfl) (fun K hK => ?_) AllReadyH.nil)
    go_simp
    go_at_call 23
    (with_reducible refine Calls.mono (HKM.out _ HW15.out) ?_)
    rintro e wn ⟨rfl, h⟩
    have HWn := Aside0.mk (HW15.out.trans (h.mono HW15.out.size))
    clear HW15 h
    obtain ⟨wm, rfl⟩ : ∃ wz : World, wz = wn := ⟨_, rfl⟩
    have HW15 := Aside0.mk HWn.out
    clear HWn
    go_wp2_with (fail)
    refine hK.out _ _ ?_ (fun hHeld2 => ?_)
    ·first | (with_reducible exact HS15.out _ HW15.out) | (with_reducible exact HS15.out _ (Below.refl _ _).drew)
    clear hK K hHeld
    have hHeld := hHeld2
    clear hHeld2
    try simp only [Act.put, List.getElem_toArray, List.getElem_cons_zero, List.getElem_cons_succ, List.setIfInBounds_toArray, List.set_cons_zero, List.set_cons_succ]
    refine wpAnyH_take (i := 9) (oi := _) (v := ?_) rfl (by kernel_rfl) (by kernel_rfl) (by kernel_rfl) (fun _ _ _ h => h) (Or.inl ⟨by rfl, ?_⟩) (by assumption) ?_
    case refine_2 => (intro w hSw; (try dsimp only [List.getElem_toArray, List.getElem_cons_zero, List.getElem_cons_succ] at hSw ⊢); go_simp; (try with_reducible rfl))
    try simp only [Act.put, List.getElem_toArray, List.getElem_cons_zero, List.getElem_cons_succ, List.setIfInBounds_toArray, List.set_cons_zero, List.set_cons_succ]
    refine wpAnyH_done (by kernel_rfl) ?_ _
    go_wp2_with (fail)
    go_roundg (gk - 1)
    case measure => omega
    case rel => exact ⟨j + 1, by go_num, by omega, by omega, ⟨HJ.out.trans (HW15.out.mono HJ.out.size)⟩⟩
   ·have hltI : ¬ (j : Int) < (l.length : Int) := by omega
    have HVj := Aside0.mk (HV9.out.trans (HJ.out.mono HV9.out.size))
    have HN8j := Aside0.mk (show Below v8.heap.size v8 wj from HWd.out.trans (HJ.out.mono HWd.out.size))
    have HN4j := Aside0.mk (show Below v4.heap.size v4 wj from HN48.out.trans (HN8j.out.mono HN48.out.size))
    have HN1j := Aside0.mk (show Below v1.heap.size v1 wj from (HN3.out.trans (HN4.out.mono HN3.out.size)).trans (HN4j.out.mono (HN3.out.trans (HN4.out.mono HN3.out.size)).size))
    have HFj := Aside0.mk (Fr.on' HF1.out HN1j.out)
    have HKU2 := Aside0.mk (show ∀ W, Below v0.heap.size v0 W → Calls Tryz.prog 22 #[.agg #[.int .i64 b.origin, .int .i64 b.number, .slice A6 b.mails.length c6], .agg #[.int .i64 b.origin, .int .i64 b.number, .slice A b.mails.length c]] W fun e w' => e = .returned (.bool true) ∧ Below W.heap.size W w' from fun W hW => by
     have h := kbundle_any b b A6 c6 A c W (HBc.out.on hW) (HB0.out.on hW) HFB.out HFB.out
     rw [decide_eq_true (rfl : b = b)] at h
     exact h)
    have HKT2 := Aside0.mk (show ∀ W, Below v0.heap.size v0 W → Calls Tryz.prog 21 #[.slice A7 t.length c7, .slice A2 t.length c2] W fun e w' => e = .returned (.bool true) ∧ Below W.heap.size W w' from fun W hW => by
     have h := kbytes_any (HTc.out.on hW) (HT0.out.on hW) (by omega) (by omega)
     rw [decide_eq_true (rfl : t = t)] at h
     exact h)
    have hxl2 : X1.length ≤ 100000 := by omega
    go_wp2_with (first | (go_at_call 24; (with_reducible refine Calls.mono (over_fr _ HFj.out hxl2) ?_); rintro e y1 ⟨rfl, h⟩; have HO1 := Aside0.mk (HVj.out.trans h); clear h; obtain ⟨e0, e1, e2, f0, f1, f2⟩ := cells3 (row_on HO1.out HRG.out); obtain ⟨b0, b1, b2, g0, g1, g2⟩ := cells3 (row_on HO1.out HRB.out)) | (go_at_call 22; (with_reducible refine Calls.mono (HKU2.out _ HO1.out) ?_); rintro e y2 ⟨rfl, h⟩; have HO2 := Aside0.mk (HO1.out.trans (h.mono HO1.out.size)); clear h) | (go_at_call 21; (with_reducible refine Calls.mono (HKT2.out _ HO2.out) ?_); rintro e y3 ⟨rfl, h⟩; have HO3 := Aside0.mk (HO2.out.trans (h.mono HO2.out.size)); clear h) | (go_at_call 25; (with_reducible refine Calls.mono (HWK0.out _ HO3.out) ?_); rintro e y4 ⟨rfl, h⟩; have HO4 := Aside0.mk (HO3.out.trans (h.mono HO3.out.size)); clear h))
    go_ret
    exact ⟨rfl, HWv.out.trans (HO4.out.mono HWv.out.size)⟩
 ·have t1 : decide ((5000 : Int) < (t.length : Int)) = true := by simp; omega
  have t2 : (5000 : Int) < (t.length : Int) := by omega
  go_enter Tryz.func3, Tryz.ntmps3
  go_upto_region 1 with (fail)
  rw [← HW0.out]
  obtain ⟨b0, b1, b2, g0, g1, g2⟩ := cells3 HR.out
  go_wp2_with (first | (go_at_call 10; (with_reducible refine Calls.mono (HHV1.out _ (HW0B.out.trans ((by first | exact HW.out | exact HW.out.alloc HW.out.size _ : Below w0.heap.size w0 _).mono HW0B.out.size))) ?_); rintro e wq ⟨⟨r, rfl, hr⟩, h⟩; have hwN := (by first | exact HW.out.trans (h.mono HW.out.size) | exact (HW.out.alloc HW.out.size _).trans (h.mono (HW.out.alloc HW.out.size _).size) : Below w0.heap.size w0 wq); have HL1 := Aside0.mk hr; clear hr; clear HW h; have HW := Aside0.mk hwN; (try clear b0 b1 b2 g0 g1 g2); obtain ⟨b0, b1, b2, g0, g1, g2⟩ := cells3 (row_on hwN HR.out); clear hwN; cases r) | (go_at_call 10; (with_reducible refine Calls.mono (HHV2.out _ (HW0B.out.trans ((by first | exact HW.out | exact HW.out.alloc HW.out.size _ : Below w0.heap.size w0 _).mono HW0B.out.size))) ?_); rintro e wq ⟨⟨r, rfl, hr⟩, h⟩; have hwN := (by first | exact HW.out.trans (h.mono HW.out.size) | exact (HW.out.alloc HW.out.size _).trans (h.mono (HW.out.alloc HW.out.size _).size) : Below w0.heap.size w0 wq); have HL2 := Aside0.mk hr; clear hr; clear HW h; have HW := Aside0.mk hwN; (try clear b0 b1 b2 g0 g1 g2); obtain ⟨b0, b1, b2, g0, g1, g2⟩ := cells3 (row_on hwN HR.out); clear hwN; cases r))
  all_goals
   go_ret
   exact ⟨rfl, HW0B.out.trans (HW.out.mono HW0B.out.size)⟩
end Go.Proofs.YtpfmnkpmidjfjaaGreatDoor
