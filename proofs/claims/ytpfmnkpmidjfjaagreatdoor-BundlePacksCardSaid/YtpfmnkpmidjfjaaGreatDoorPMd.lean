/- Texts of this seat, one behind the other: the plain law, the walks. -/
import Derived.Test.YtpfmnkpmidjfjaaGreatDoorProg
import Derived.WalkKit
import Derived.WalkLawsBesides
import Derived.Outline
import Derived.LoopTactic
import Derived.Lib.Hide
import Derived.Deep.QuietTactic
import Derived.BigQuiet
import Derived.Deep.LoopGhost
import Derived.Deep.DeepCutAuto
import Derived.Deep.CutBlock
import Derived.Deep.RegionHeld3
import Derived.Deep.RegionWith
import Derived.Deep.WholeRow
import Derived.Laws.Rows
import Derived.Laws.Tables
import Derived.Laws.ResultCell
import Derived.StillTailTactics
import Derived.Deep.DeepMust
import Derived.IntWalk
import Derived.KernelRfl
import Derived.Test.YtpfmnkpmidjfjaaGreatDoorPXa
import Derived.RegionTactic
import Derived.Test.YtpfmnkpmidjfjaaGreatDoorPMa
import Derived.Test.YtpfmnkpmidjfjaaGreatDoorPMb
import Derived.Test.YtpfmnkpmidjfjaaGreatDoorPMc
/- BundlePacks, walked. -/
namespace Go.Proofs.YtpfmnkpmidjfjaaGreatDoor
open Go.RowKit Go.Lib
open Go.Proofs.YtpfmnkpmidjfjaaGreatDoorW.PrintWords
set_option linter.unusedVariables false
set_option linter.unusedSimpArgs false
theorem lights_fit {l : List B.Mail} (h : l.length ≤ 20 ∧ ∀ m ∈ l, B.Light 20000 m) : l.length ≤ 1000 ∧ ∀ m ∈ l, B.Fit m := ⟨by have := h.1; omega, fun m hm => (h.2 m hm).fit (by decide)⟩
theorem plains_fit {l : List B.Mail} (h : l.length ≤ 1000 ∧ ∀ m ∈ l, B.Fit m) (k : Nat) (o n : Int) : B.FitB ⟨o, n, (l.take k).map B.plain⟩ := ⟨by
  show ((l.take k).map B.plain).length ≤ 1000
  rw [List.length_map, List.length_take]; have := h.1; omega, fun m hm => by
  obtain ⟨m', hm', rfl⟩ := List.mem_map.1 hm
  exact plain_fit (h.2 m' (List.mem_of_mem_take hm'))⟩
/-- Mails of one's own, none of them in block g or before. -/
abbrev Ng (g : Nat) (w : World) (v : Value) (ms : List B.Mail) : Prop := kMail.N 46 w (g + 1) (fun k => g < k) v ms
theorem Ng.set {g : Nat} {w : World} {v : Value} {ms : List B.Mail} (h : Ng g w v ms) (j : Nat) (u : Value) : Ng g (w.setCell ⟨g, j, none⟩ u) v ms := Kd.N_far h (fun k hk => by show k ≠ g; omega) u
theorem Mcells.all {w : World} {p : Addr} {m : B.Mail} {A : Option Addr} {c : Nat} {A2 : Option Addr} {c2 : Nat} (h : Mcells w p m A c A2 c2) : w.cell? p = some (.bool m.frm.null) ∧ w.cell? ⟨p.block, p.off + 1, none⟩ = some (.string (str m.frm.loc)) ∧ w.cell? ⟨p.block, p.off + 2, none⟩ = some (.string (str m.frm.dom)) ∧ w.cell? ⟨p.block, p.off + 3, none⟩ = some (.slice A m.to.length c) ∧ w.cell? ⟨p.block, p.off + 4, none⟩ = some (.slice A2 m.body.length c2) ∧ w.cell? ⟨p.block, p.off + 5, none⟩ = some (.bool m.quiet) ∧ w.cell? ⟨p.block, p.off + 6, none⟩ = some (.string (str m.helo)) ∧ w.cell? ⟨p.block, p.off + 7, none⟩ = some (.int .i64 m.tm) := ⟨h.k0, h.k1, h.k2, h.k3, h.k4, h.k5, h.k6, h.k7⟩
theorem setCell_row3 {w : World} {g t : Nat} {x0 x1 x2 : Value} (u : Value) (h : w.heap[g]? = some (.cells #[x0, x1, x2] t (0, 0))) : (w.setCell ⟨g, 2, none⟩ u).heap[g]? = some (.cells #[x0, x1, u] t (0, 0)) := setCell_row _ g 2 _ _ _ u h
set_option maxRecDepth 100000 in
set_option maxHeartbeats 8000000 in
theorem packs_walk (l : List B.Mail) (A : Option Addr) (c : Nat) (o n : Int) (w : World) (hc : l.length ≤ c) (hx : kMail.C w A l.length l) (hn : l.length ≤ 140737488351232) (hf : ∀ m ∈ l, B.Reach m) (hv : Vars w) :
    Calls Tryz.prog 6 #[.slice A l.length c, .int .i64 o, .int .i64 n] w fun e w' => e = .returned (.bool true) ∧ Below w.heap.size w w' := by
  have HX := Aside0.mk hx
  have HV := Aside0.mk hv
  have HC := Aside0.mk hc
  have hhv : ∀ W, Below w.heap.size w W → Calls Tryz.prog 10 #[.slice A l.length c] W fun e w' => (∃ r : Bool, e = .returned (.bool r) ∧ (r = false → l.length ≤ 20 ∧ ∀ m ∈ l, B.Light 20000 m)) ∧ Below W.heap.size W w' := fun W hW => heavy_any l A c W (Kd.C_below hx hW) hn hf
  have HHV := Aside0.mk hhv
  have hwk : ∀ W, Below w.heap.size w W → Calls Tryz.prog 25 #[] W fun e w' => e = .returned (.bool true) ∧ Below W.heap.size W w' := fun W hW => wakes_any W (HV.out.go hW)
  have HWK := Aside0.mk hwk
  have HW := Aside0.mk (Below.refl w.heap.size w)
  obtain ⟨T, hT⟩ : ∃ T, T = B.pack l o n := ⟨_, rfl⟩
  have hlaw := B.pack_law l o n
  rw [← hT] at hlaw
  have HT := Aside0.mk hT
  obtain ⟨hT1, hT2, hT3, hT4⟩ := hlaw
  clear hx hv hhv hwk hc hf hT
  by_cases hT0 : T = 0
  · have hpk : (l.length ≤ 20 ∧ ∀ m ∈ l, B.Light 20000 m) → ∀ W, Below w.heap.size w W → Calls Tryz.prog 17 #[.slice A l.length c, .int .i64 o, .int .i64 n] W fun e w' => e = .returned (.tuple #[.int .i64 0, .int .i64 9]) ∧ Below W.heap.size W w' := fun hl W hW => by
      have h := pack_any l A c o n W (Kd.C_below HX.out hW) HC.out (lights_fit hl).1 (lights_fit hl).2 (HV.out.go hW)
      rw [← HT.out, hT0] at h
      exact h
    have HPK := Aside0.mk hpk
    clear hpk hT0 hT1 hT2 hT3 hT4
    go_enter Tryz.func6, Tryz.ntmps6
    go_wp2_with (first | (go_at_call 10; (with_reducible refine Calls.mono (HHV.out _ (by first | exact HW.out | exact HW.out.alloc HW.out.size _)) ?_); rintro e wq ⟨⟨r, rfl, hr⟩, h⟩; have hwN := (by first | exact HW.out.trans (h.mono HW.out.size) | exact (HW.out.alloc HW.out.size _).trans (h.mono (HW.out.alloc HW.out.size _).size) : Below w.heap.size w wq); have HL := Aside0.mk hr; clear hr; clear HW h; have HW := Aside0.mk hwN; clear hwN; cases r) | (go_at_call 17; (with_reducible refine Calls.mono (HPK.out (HL.out (by trivial)) _ (by first | exact HW.out | exact HW.out.alloc HW.out.size _)) ?_); rintro e wq ⟨rfl, h⟩; have hwN := (by first | exact HW.out.trans (h.mono HW.out.size) | exact (HW.out.alloc HW.out.size _).trans (h.mono (HW.out.alloc HW.out.size _).size) : Below w.heap.size w wq); clear HW h; have HW := Aside0.mk hwN; clear hwN) | (go_at_call 25; (with_reducible refine Calls.mono (HWK.out _ (by first | exact HW.out | exact HW.out.alloc HW.out.size _)) ?_); rintro e wq ⟨rfl, h⟩; have hwN := (by first | exact HW.out.trans (h.mono HW.out.size) | exact (HW.out.alloc HW.out.size _).trans (h.mono (HW.out.alloc HW.out.size _).size) : Below w.heap.size w wq); clear HW h; have HW := Aside0.mk hwN; clear hwN))
    all_goals
      go_ret
      exact ⟨rfl, HW.out⟩
  · have hpk : (l.length ≤ 20 ∧ ∀ m ∈ l, B.Light 20000 m) → ∀ W, Below w.heap.size w W → Calls Tryz.prog 17 #[.slice A l.length c, .int .i64 o, .int .i64 n] W fun e w' => e = .returned (.tuple #[.int .i64 (T : Int), .int .i64 0]) ∧ Below W.heap.size W w' := fun hl W hW => by
      have h := pack_any l A c o n W (Kd.C_below HX.out hW) HC.out (lights_fit hl).1 (lights_fit hl).2 (HV.out.go hW)
      rw [← HT.out, if_neg hT0] at h
      exact h
    have HPK := Aside0.mk hpk
    -- the bundle of the first T mails
    obtain ⟨L1, hL1⟩ : ∃ L1, L1 = (l.take T).map B.plain := ⟨_, rfl⟩
    have hL1l : L1.length = T := by rw [hL1, List.length_map, List.length_take]; omega
    obtain ⟨X1, X2, hX⟩ : ∃ X1 X2, B.bytes ⟨o, n, L1⟩ = (X1, X2) := ⟨_, _, rfl⟩
    have hxl : X1.length ≤ 4096 := by have := B.bytes_len ⟨o, n, L1⟩; rw [hX] at this; exact this
    have hX0 : X2 = 0 := by have := hT3 hT0; rw [← hL1, hX] at this; exact this
    subst hX0
    have hrd : B.read X1 = (⟨o, n, L1⟩, 0) := by
      have := B.read_bytes (b := ⟨o, n, L1⟩) (by rw [hX])
      rw [hX] at this
      exact this.1
    have hby : (l.length ≤ 20 ∧ ∀ m ∈ l, B.Light 20000 m) → ∀ W A3 c3, Below w.heap.size w W → kMail.C W A3 L1.length L1 → T ≤ c3 → Calls Tryz.prog 13 #[.agg #[.int .i64 o, .int .i64 n, .slice A3 T c3]] W fun e w' => (∃ A1 c1, e = .returned (.tuple #[.slice A1 X1.length c1, .int .i64 0]) ∧ Bt w' A1 c1 X1) ∧ Below W.heap.size W w' := fun hl W A3 c3 hW hC hc3 => by
      have h := bytes_any ⟨o, n, L1⟩ A3 c3 W ⟨by show L1.length ≤ c3; omega, hC⟩ (by rw [hL1]; exact plains_fit (lights_fit hl) T o n) (HV.out.go hW)
      rw [hX] at h
      simp only at h
      rw [hL1l] at h
      exact h.mono (fun e w' h => ⟨by obtain ⟨A1, c1, h1, h2⟩ := h.1; exact ⟨A1, c1, h1, h2.bt⟩, h.2⟩)
    have HBY := Aside0.mk hby
    have hrx : ∀ W A1 c1, Below w.heap.size w W → Bt W A1 c1 X1 → Calls Tryz.prog 15 #[.slice A1 X1.length c1] W fun e w' => (∃ A c, e = .returned (.tuple #[.agg #[.int .i64 o, .int .i64 n, .slice A T c], .int .i64 0]) ∧ Bn w' ⟨o, n, L1⟩ A c) ∧ Below W.heap.size W w' := fun W A1 c1 hW hB => (read_any W hB (by omega) (HV.out.go hW)).mono (by
      rintro e w' ⟨h, h2⟩
      unfold readPost at h
      rw [hrd] at h
      simp only at h
      rw [hL1l] at h
      exact ⟨h, h2⟩)
    have HRX := Aside0.mk hrx
    have hkb : (l.length ≤ 20 ∧ ∀ m ∈ l, B.Light 20000 m) → ∀ W A1 c1 A3 c3, Bn W ⟨o, n, L1⟩ A1 c1 → kMail.C W A3 L1.length L1 → T ≤ c3 → Calls Tryz.prog 22 #[.agg #[.int .i64 o, .int .i64 n, .slice A1 T c1], .agg #[.int .i64 o, .int .i64 n, .slice A3 T c3]] W fun e w' => e = .returned (.bool true) ∧ Below W.heap.size W w' := fun hl W A1 c1 A3 c3 hB hC hc3 => by
      have hfb : B.FitB ⟨o, n, L1⟩ := by rw [hL1]; exact plains_fit (lights_fit hl) T o n
      have h := kbundle_any ⟨o, n, L1⟩ ⟨o, n, L1⟩ A1 c1 A3 c3 W hB ⟨by show L1.length ≤ c3; omega, hC⟩ hfb hfb
      rw [decide_eq_true (rfl : (⟨o, n, L1⟩ : B.Bundle) = ⟨o, n, L1⟩)] at h
      simp only at h
      rw [hL1l] at h
      exact h
    have HKB := Aside0.mk hkb
    -- one more
    obtain ⟨L2, hL2⟩ : ∃ L2, L2 = (l.take (T + 1)).map B.plain := ⟨_, rfl⟩
    obtain ⟨Y1, Y2, hY⟩ : ∃ Y1 Y2, B.bytes ⟨o, n, L2⟩ = (Y1, Y2) := ⟨_, _, rfl⟩
    have hY0 : T < l.length → T < 4 → (Y2 == 0) = false := fun h1 h2 => by
      have := hT4 h1 h2
      rw [← hL2, hY] at this
      exact beq_eq_false_iff_ne.2 this
    have hL2l : T < l.length → L2.length = T + 1 := fun h => by rw [hL2, List.length_map, List.length_take]; omega
    have hby2 : (l.length ≤ 20 ∧ ∀ m ∈ l, B.Light 20000 m) → ∀ W A3 c3 N, N = L2.length → Below w.heap.size w W → kMail.C W A3 L2.length L2 → N ≤ c3 → Calls Tryz.prog 13 #[.agg #[.int .i64 o, .int .i64 n, .slice A3 N c3]] W fun e w' => (∃ A1 c1, e = .returned (.tuple #[.slice A1 Y1.length c1, .int .i64 Y2])) ∧ Below W.heap.size W w' := fun hl W A3 c3 N hN hW hC hc3 => by
      subst hN
      have h := bytes_any ⟨o, n, L2⟩ A3 c3 W ⟨hc3, hC⟩ (by rw [hL2]; exact plains_fit (lights_fit hl) (T + 1) o n) (HV.out.go hW)
      rw [hY] at h
      exact h.mono (fun e w' h => ⟨by obtain ⟨A1, c1, h1, _⟩ := h.1; exact ⟨A1, c1, h1⟩, h.2⟩)
    have HBY2 := Aside0.mk hby2
    have HY0 := Aside0.mk hY0
    have HL1 := Aside0.mk hL1
    have HL2 := Aside0.mk hL2
    have HL1l := Aside0.mk hL1l
    have HL2l := Aside0.mk hL2l
    have hTp : (1 : Int) ≤ (T : Int) := by omega
    have hTl : (T : Int) ≤ (l.length : Int) := by omega
    have hT4' : (T : Int) ≤ 4 := by omega
    have t1 : decide ((T : Int) < 1) = false := by simp; omega
    have t2 : decide ((l.length : Int) < (T : Int)) = false := by simp; omega
    have t3 : decide ((4 : Int) < (T : Int)) = false := by simp; omega
    have t5 : decide (l.length < T) = false := by simp; omega
    clear hpk hX hxl hrd hby hrx hkb hL1 hL1l hL2 hY hY0 hL2l hby2 hT3 hT4
    go_enter Tryz.func6, Tryz.ntmps6
    go_wp2_with (first | (go_at_call 10; (with_reducible refine Calls.mono (HHV.out _ (by first | exact HW.out | exact HW.out.alloc HW.out.size _)) ?_); rintro e wq ⟨⟨r, rfl, hr⟩, h⟩; have hwN := (by first | exact HW.out.trans (h.mono HW.out.size) | exact (HW.out.alloc HW.out.size _).trans (h.mono (HW.out.alloc HW.out.size _).size) : Below w.heap.size w wq); have HL := Aside0.mk hr; clear hr; clear HW h; have HW := Aside0.mk hwN; clear hwN; cases r) | (go_at_call 17; (with_reducible refine Calls.mono (HPK.out (HL.out (by trivial)) _ (by first | exact HW.out | exact HW.out.alloc HW.out.size _)) ?_); rintro e wq ⟨rfl, h⟩; have hwN := (by first | exact HW.out.trans (h.mono HW.out.size) | exact (HW.out.alloc HW.out.size _).trans (h.mono (HW.out.alloc HW.out.size _).size) : Below w.heap.size w wq); clear HW h; have HW := Aside0.mk hwN; clear hwN))
    any_goals (go_ret; exact ⟨rfl, HW.out⟩)
    have hll := (HL.out (by trivial)).1
    obtain ⟨g, hg⟩ : ∃ g, g = wq.heap.size := ⟨_, rfl⟩
    have HG0 := Aside0.mk (show w.heap.size ≤ g by rw [hg]; exact HW.out.size)
    have HGE := Aside0.mk hg
    rw [← hg]
    clear hg
    go_loopg [10] T (fun gf v10 wr => ∃ (j : Nat), v10 = .int .i64 j ∧ j ≤ T ∧ gf + j = T ∧ Aside0 (∃ A3 c3, wr.heap[g]? = some (.cells #[.int .i64 o, .int .i64 n, .slice A3 j c3] 24 (0, 0)) ∧ Ng g wr (.slice A3 j c3) ((l.take j).map B.plain) ∧ Below w.heap.size w wr))
    case atStart => exact ⟨0, rfl, by omega, by omega, ⟨none, 0, by rw [HGE.out]; exact heap_alloc_new _ _, Kd.N_nil _ _ _ _ _, HW.out.alloc HW.out.size _⟩⟩
    case round =>
      obtain ⟨j, rfl, hj, hgj, H⟩ := hrel
      obtain ⟨wx, rfl⟩ : ∃ wz : World, wz = wr := ⟨_, rfl⟩
      obtain ⟨go, rfl⟩ : ∃ z : Nat, z = gk := ⟨_, rfl⟩
      obtain ⟨A3, c3, hrow, hN, hB⟩ := H.out
      have HROW := Aside0.mk hrow
      have HN := Aside0.mk hN
      have HB := Aside0.mk hB
      clear hrow hN hB H
      obtain ⟨b0, b1, b2, g0, g1, g2⟩ := cells3 HROW.out
      by_cases hlt : j < T
      · obtain ⟨m, hm⟩ : ∃ m, m = l.getD j B.noMail := ⟨_, rfl⟩
        have hjl : j < l.length := by omega
        obtain ⟨ad, A1, c1, A2, c2, rfl, hmc, hml⟩ := mail_at HX.out j hjl m hm
        obtain ⟨q0, q1, q2, q3, q4, q5, q6, q7⟩ := hmc.on HB.out
        have HEL := Aside0.mk hmc
        have h0 : (0 : Int) ≤ (j : Int) := by omega
        have hjl' : (j : Int) < (l.length : Int) := by omega
        have hfx : B.Fit m := (lights_fit (HL.out (by trivial))).2 _ (by rw [hm]; exact getD_mem l j hjl _)
        have hpl : ∀ W, Below wx.heap.size wx W → Calls Tryz.prog 26 #[.agg #[.bool m.frm.null, .string (str m.frm.loc), .string (str m.frm.dom), .slice A1 m.to.length c1, .slice A2 m.body.length c2, .bool m.quiet, .string (str m.helo), .int .i64 m.tm]] W fun e w' => (∃ A c A' c', e = .returned (.agg #[.bool m.frm.null, .string (str m.frm.loc), .string (str m.frm.dom), .slice A m.to.length c, .slice A' m.body.length c', .bool false, .string { data := #[] }, .int .i64 0]) ∧ Ps wx.heap.size w' (.slice A m.to.length c) m.to ∧ Ow wx.heap.size w' (.slice A' m.body.length c') m.body) ∧ Below W.heap.size W w' := fun W hW => (rplain_any m A1 c1 A2 c2 W ((hml.on HB.out).on hW) hfx).mono (by
          rintro e w' ⟨⟨A, c, A', c', rfl, h1, h2⟩, h3⟩
          exact ⟨⟨A, c, A', c', rfl, Kd.R_lower h1 hW.size, h2.low hW.size⟩, h3⟩)
        have HPL := Aside0.mk hpl
        have HQ0 := Aside0.mk (And.intro b2 (And.intro q0 (And.intro q1 (And.intro q2 (And.intro q3 (And.intro q4 (And.intro q5 (And.intro q6 q7))))))))
        have HNL := Aside0.mk (show ((l.take j).map B.plain).length ≤ 1000 by rw [List.length_map, List.length_take]; omega)
        clear hmc hml hfx hpl
        have hft := map_take B.plain l j hjl B.noMail
        rw [← hm] at hft
        have HFT := Aside0.mk hft
        have hlt' : (j : Int) < (T : Int) := by omega
        clear hm hft
        go_wp2_with (fail)
        have HS := Aside0.mk (fun W (hW : Below w.heap.size w W) => (HEL.out.on hW).all)
        refine wp_region_held_drew (S := (fun w' => w'.cell? (ad.add (j * 8)) = some (.bool m.frm.null) ∧ w'.cell? ⟨(ad.add (j * 8)).block, (ad.add (j * 8)).off + 1, none⟩ = some (.string (str m.frm.loc)) ∧ w'.cell? ⟨(ad.add (j * 8)).block, (ad.add (j * 8)).off + 2, none⟩ = some (.string (str m.frm.dom)) ∧ w'.cell? ⟨(ad.add (j * 8)).block, (ad.add (j * 8)).off + 3, none⟩ = some (.slice A1 m.to.length c1) ∧ w'.cell? ⟨(ad.add (j * 8)).block, (ad.add (j * 8)).off + 4, none⟩ = some (.slice A2 m.body.length c2) ∧ w'.cell? ⟨(ad.add (j * 8)).block, (ad.add (j * 8)).off + 5, none⟩ = some (.bool m.quiet) ∧ w'.cell? ⟨(ad.add (j * 8)).block, (ad.add (j * 8)).off + 6, none⟩ = some (.string (str m.helo)) ∧ w'.cell? ⟨(ad.add (j * 8)).block, (ad.add (j * 8)).off + 7, none⟩ = some (.int .i64 m.tm))) (by kernel_rfl) ?_ (fun hHeld => ?_)
        · exact HS.out _ HB.out.drew
        refine wpAnyH_take (i := 0) (oi := _) (v := ?_) rfl (by kernel_rfl) (by kernel_rfl) (by kernel_rfl) (fun _ _ _ h => h) (Or.inl ⟨by rfl, ?_⟩) (by assumption) ?_
        case refine_2 => (intro w hSw; (try dsimp only [List.getElem_toArray, List.getElem_cons_zero, List.getElem_cons_succ] at hSw ⊢); go_simp; (try with_reducible rfl))
        try simp only [Act.put, List.getElem_toArray, List.getElem_cons_zero, List.getElem_cons_succ, List.setIfInBounds_toArray, List.set_cons_zero, List.set_cons_succ]
        refine wpAnyH_take (i := 2) (oi := _) (v := ?_) rfl (by kernel_rfl) (by kernel_rfl) (by kernel_rfl) (fun _ _ _ h => h) (Or.inl ⟨by rfl, ?_⟩) (by assumption) ?_
        case refine_2 => (intro w hSw; (try dsimp only [List.getElem_toArray, List.getElem_cons_zero, List.getElem_cons_succ] at hSw ⊢); go_simp; (try with_reducible rfl))
        try simp only [Act.put, List.getElem_toArray, List.getElem_cons_zero, List.getElem_cons_succ, List.setIfInBounds_toArray, List.set_cons_zero, List.set_cons_succ]
        refine wpAnyH_take (i := 3) (oi := _) (v := ?_) rfl (by kernel_rfl) (by kernel_rfl) (by kernel_rfl) (fun _ _ _ h => h) (Or.inl ⟨by rfl, ?_⟩) (by assumption) ?_
        case refine_2 => (intro w hSw; (try dsimp only [List.getElem_toArray, List.getElem_cons_zero, List.getElem_cons_succ] at hSw ⊢); go_simp; (try with_reducible rfl))
        try simp only [Act.put, List.getElem_toArray, List.getElem_cons_zero, List.getElem_cons_succ, List.setIfInBounds_toArray, List.set_cons_zero, List.set_cons_succ]
        refine wpAnyH_take (i := 4) (oi := _) (v := ?_) rfl (by kernel_rfl) (by kernel_rfl) (by kernel_rfl) (fun _ _ _ h => h) (Or.inl ⟨by rfl, ?_⟩) (by assumption) ?_
        case refine_2 => (intro w hSw; (try dsimp only [List.getElem_toArray, List.getElem_cons_zero, List.getElem_cons_succ] at hSw ⊢); go_simp; (try with_reducible rfl))
        try simp only [Act.put, List.getElem_toArray, List.getElem_cons_zero, List.getElem_cons_succ, List.setIfInBounds_toArray, List.set_cons_zero, List.set_cons_succ]
        refine wpAnyH_take (i := 5) (oi := _) (v := ?_) rfl (by kernel_rfl) (by kernel_rfl) (by kernel_rfl) (fun _ _ _ h => h) (Or.inl ⟨by rfl, ?_⟩) (by assumption) ?_
        case refine_2 => (intro w hSw; (try dsimp only [List.getElem_toArray, List.getElem_cons_zero, List.getElem_cons_succ] at hSw ⊢); go_simp; (try with_reducible rfl))
        try simp only [Act.put, List.getElem_toArray, List.getElem_cons_zero, List.getElem_cons_succ, List.setIfInBounds_toArray, List.set_cons_zero, List.set_cons_succ]
        refine wpAnyH_ready (rs := [1, 6]) (by kernel_rfl) (by simp) ?_
        refine (AllReadyH.cons (o := _) (by simp only [List.getElem?_toArray, List.getElem?_cons_zero, List.getElem?_cons_succ]; rfl) (fun K hK => ?_) (AllReadyH.cons (o := _) (by simp only [List.getElem?_toArray, List.getElem?_cons_zero, List.getElem?_cons_succ]; rfl) (fun K hK => ?_) AllReadyH.nil))
        · skip
          go_simp
          refine hK.out _ _ ?_ (fun hHeld2 => ?_)
          · first | (with_reducible exact HS.out _ HB.out.drew) | (with_reducible exact HS.out _ HB1.out) | (with_reducible exact HS.out _ (HB1.out.alloc HB1.out.size _)) | (with_reducible exact HS.out _ HB9.out) | (with_reducible exact HS.out _ (HB9.out.setCell HG0.out _))
          clear hK K hHeld
          have hHeld := hHeld2
          clear hHeld2
          try simp only [Act.put, List.getElem_toArray, List.getElem_cons_zero, List.getElem_cons_succ, List.setIfInBounds_toArray, List.set_cons_zero, List.set_cons_succ]
          refine wpAnyH_ready (rs := [6]) (by kernel_rfl) (by simp) ?_
          refine (AllReadyH.cons (o := _) (by simp only [List.getElem?_toArray, List.getElem?_cons_zero, List.getElem?_cons_succ]; rfl) (fun K hK => ?_) AllReadyH.nil)
          go_simp
          go_at_call 26
          (with_reducible refine Calls.mono (HPL.out _ ?_) ?_)
          · (first | exact Below.refl _ _ | exact (Below.refl _ _).drew)
          rintro e w1 ⟨⟨At, ct, Ab, cb, rfl, hTo, hBo⟩, h⟩
          have hw : Below wx.heap.size wx w1 := (by first | exact h | exact ((Below.refl _ _).drew).trans h)
          have HW1 := Aside0.mk hw; have HTo := Aside0.mk hTo; have HBo := Aside0.mk hBo
          have HB1 := Aside0.mk (HB.out.trans (hw.mono HB.out.size))
          have hrow1 := row_on hw HROW.out
          have k2 := (cells3 hrow1).2.2.1; have k2a := fun o => (cells3 (row_on ((Below.refl w1.heap.size w1).alloc (Nat.le_refl _) o) hrow1)).2.2.1
          clear h hw hTo hBo hrow1
          go_wp2_with (fail)
          refine hK.out _ _ ?_ (fun hHeld2 => ?_)
          · first | (with_reducible exact HS.out _ HB.out.drew) | (with_reducible exact HS.out _ HB1.out) | (with_reducible exact HS.out _ (HB1.out.alloc HB1.out.size _)) | (with_reducible exact HS.out _ HB9.out) | (with_reducible exact HS.out _ (HB9.out.setCell HG0.out _))
          clear hK K hHeld
          have hHeld := hHeld2
          clear hHeld2
          try simp only [Act.put, List.getElem_toArray, List.getElem_cons_zero, List.getElem_cons_succ, List.setIfInBounds_toArray, List.set_cons_zero, List.set_cons_succ]
          refine wpAnyH_ready (rs := [7]) (by kernel_rfl) (by simp) ?_
          refine (AllReadyH.cons (o := _) (by simp only [List.getElem?_toArray, List.getElem?_cons_zero, List.getElem?_cons_succ]; rfl) (fun K hK => ?_) AllReadyH.nil)
          go_simp
          refine hK.out _ _ ?_ (fun hHeld2 => ?_)
          · first | (with_reducible exact HS.out _ HB.out.drew) | (with_reducible exact HS.out _ HB1.out) | (with_reducible exact HS.out _ (HB1.out.alloc HB1.out.size _)) | (with_reducible exact HS.out _ HB9.out) | (with_reducible exact HS.out _ (HB9.out.setCell HG0.out _))
          clear hK K hHeld
          have hHeld := hHeld2
          clear hHeld2
          try simp only [Act.put, List.getElem_toArray, List.getElem_cons_zero, List.getElem_cons_succ, List.setIfInBounds_toArray, List.set_cons_zero, List.set_cons_succ]
          refine wpAnyH_ready (rs := [8]) (by kernel_rfl) (by simp) ?_
          refine (AllReadyH.cons (o := _) (by simp only [List.getElem?_toArray, List.getElem?_cons_zero, List.getElem?_cons_succ]; rfl) (fun K hK => ?_) AllReadyH.nil)
          refine Kd.N_append_step kMail (w0 := wx) (g + 1) (by rfl) (.tmp 58) (.tmp 64) 22 46 (.agg #[.bool false, .string ⟨#[]⟩, .string ⟨#[]⟩, .slice none 0 0, .slice none 0 0, .bool false, .string ⟨#[]⟩, .int .i64 0]) 120 (by rfl) Tryz.underlying22 infoMail rfl (by decide) (by omega) (.slice A3 j c3) ((l.take j).map B.plain) (B.plain m) (mcs (B.plain m) At ct Ab cb) (fun k => g < k) (fun k => wx.heap.size ≤ k) (by rfl) (by rfl) (mail_FK (m := B.plain m) (kMail_mkM (m := B.plain m) HTo.out HBo.out)) (fun k hk => ⟨Nat.lt_of_lt_of_le (Array.getElem?_eq_some_iff.1 HROW.out).1 hk, fun e => absurd (Kd.N_lt HN.out k e.symm) (by omega)⟩) (fun k hk => Nat.lt_of_lt_of_le (Array.getElem?_eq_some_iff.1 (row_on HW1.out HROW.out)).1 hk) (Kd.N_below HN.out HW1.out) (HW1.out.mono (Array.getElem?_eq_some_iff.1 HROW.out).1) (Array.getElem?_eq_some_iff.1 (row_on HW1.out HROW.out)).1 (by have := HNL.out; omega) ?_
          intro v9 w9 hN9 hB9 hg9 _
          obtain ⟨A9, c9, e9⟩ := Kd.N_slice hN9
          obtain ⟨N9, hN9l⟩ : ∃ N, N = (((l.take j).map B.plain) ++ [B.plain m]).length := ⟨_, rfl⟩
          rw [← hN9l] at e9; subst e9
          have HN9 := Aside0.mk hN9; have HB9 := Aside0.mk (HB.out.trans (hB9.mono (Nat.le_succ_of_le HG0.out))); have HL9 := Aside0.mk hN9l; have hr9 := (hB9.block g (Nat.lt_succ_self g)).trans HROW.out; have HR9 := Aside0.mk hr9; have fr9 := (cells3 hr9).2.2.2.2.2; have k9 := (cells3 hr9).2.2.1; clear hN9 hB9 hg9 hN9l hr9
          refine hK.out _ _ ?_ (fun hHeld2 => ?_)
          · first | (with_reducible exact HS.out _ HB.out.drew) | (with_reducible exact HS.out _ HB1.out) | (with_reducible exact HS.out _ (HB1.out.alloc HB1.out.size _)) | (with_reducible exact HS.out _ HB9.out) | (with_reducible exact HS.out _ (HB9.out.setCell HG0.out _))
          clear hK K hHeld
          have hHeld := hHeld2
          clear hHeld2
          try simp only [Act.put, List.getElem_toArray, List.getElem_cons_zero, List.getElem_cons_succ, List.setIfInBounds_toArray, List.set_cons_zero, List.set_cons_succ]
          refine wpAnyH_take (i := 9) (oi := _) (v := ?_) rfl (by kernel_rfl) (by kernel_rfl) (by kernel_rfl) (fun _ _ _ h => h) (Or.inl ⟨by rfl, ?_⟩) (by assumption) ?_
          case refine_2 => (intro w hSw; (try dsimp only [List.getElem_toArray, List.getElem_cons_zero, List.getElem_cons_succ] at hSw ⊢); go_simp; (try with_reducible rfl))
          try simp only [Act.put, List.getElem_toArray, List.getElem_cons_zero, List.getElem_cons_succ, List.setIfInBounds_toArray, List.set_cons_zero, List.set_cons_succ]
          refine wpAnyH_ready (rs := [10]) (by kernel_rfl) (by simp) ?_
          refine (AllReadyH.cons (o := _) (by simp only [List.getElem?_toArray, List.getElem?_cons_zero, List.getElem?_cons_succ]; rfl) (fun K hK => ?_) AllReadyH.nil)
          go_simp
          refine hK.out _ _ ?_ (fun hHeld2 => ?_)
          · first | (with_reducible exact HS.out _ HB.out.drew) | (with_reducible exact HS.out _ HB1.out) | (with_reducible exact HS.out _ (HB1.out.alloc HB1.out.size _)) | (with_reducible exact HS.out _ HB9.out) | (with_reducible exact HS.out _ (HB9.out.setCell HG0.out _))
          clear hK K hHeld
          have hHeld := hHeld2
          clear hHeld2
          try simp only [Act.put, List.getElem_toArray, List.getElem_cons_zero, List.getElem_cons_succ, List.setIfInBounds_toArray, List.set_cons_zero, List.set_cons_succ]
          refine wpAnyH_done (by kernel_rfl) ?_ _
          have hl9 : N9 = j + 1 := by rw [HL9.out, List.length_append, List.length_map, List.length_take]; simp; omega
          subst hl9
          go_wp2_with (fail)
          go_roundg (go - 1)
          case measure => omega
          case rel => exact ⟨j + 1, by go_num, by omega, by omega, ⟨A9, c9, setCell_row3 _ HR9.out, by rw [HFT.out]; exact Ng.set HN9.out _ _, HB9.out.setCell HG0.out _⟩⟩
        · skip
          go_simp
          go_at_call 26
          (with_reducible refine Calls.mono (HPL.out _ ?_) ?_)
          · (first | exact Below.refl _ _ | exact (Below.refl _ _).drew)
          rintro e w1 ⟨⟨At, ct, Ab, cb, rfl, hTo, hBo⟩, h⟩
          have hw : Below wx.heap.size wx w1 := (by first | exact h | exact ((Below.refl _ _).drew).trans h)
          have HW1 := Aside0.mk hw; have HTo := Aside0.mk hTo; have HBo := Aside0.mk hBo
          have HB1 := Aside0.mk (HB.out.trans (hw.mono HB.out.size))
          have hrow1 := row_on hw HROW.out
          have k2 := (cells3 hrow1).2.2.1; have k2a := fun o => (cells3 (row_on ((Below.refl w1.heap.size w1).alloc (Nat.le_refl _) o) hrow1)).2.2.1
          clear h hw hTo hBo hrow1
          go_wp2_with (fail)
          refine hK.out _ _ ?_ (fun hHeld2 => ?_)
          · first | (with_reducible exact HS.out _ HB.out.drew) | (with_reducible exact HS.out _ HB1.out) | (with_reducible exact HS.out _ (HB1.out.alloc HB1.out.size _)) | (with_reducible exact HS.out _ HB9.out) | (with_reducible exact HS.out _ (HB9.out.setCell HG0.out _))
          clear hK K hHeld
          have hHeld := hHeld2
          clear hHeld2
          try simp only [Act.put, List.getElem_toArray, List.getElem_cons_zero, List.getElem_cons_succ, List.setIfInBounds_toArray, List.set_cons_zero, List.set_cons_succ]
          refine wpAnyH_ready (rs := [1, 7]) (by kernel_rfl) (by simp) ?_
          refine (AllReadyH.cons (o := _) (by simp only [List.getElem?_toArray, List.getElem?_cons_zero, List.getElem?_cons_succ]; rfl) (fun K hK => ?_) (AllReadyH.cons (o := _) (by simp only [List.getElem?_toArray, List.getElem?_cons_zero, List.getElem?_cons_succ]; rfl) (fun K hK => ?_) AllReadyH.nil))
          · skip
            go_simp
            refine hK.out _ _ ?_ (fun hHeld2 => ?_)
            · first | (with_reducible exact HS.out _ HB.out.drew) | (with_reducible exact HS.out _ HB1.out) | (with_reducible exact HS.out _ (HB1.out.alloc HB1.out.size _)) | (with_reducible exact HS.out _ HB9.out) | (with_reducible exact HS.out _ (HB9.out.setCell HG0.out _))
            clear hK K hHeld
            have hHeld := hHeld2
            clear hHeld2
            try simp only [Act.put, List.getElem_toArray, List.getElem_cons_zero, List.getElem_cons_succ, List.setIfInBounds_toArray, List.set_cons_zero, List.set_cons_succ]
            refine wpAnyH_ready (rs := [7]) (by kernel_rfl) (by simp) ?_
            refine (AllReadyH.cons (o := _) (by simp only [List.getElem?_toArray, List.getElem?_cons_zero, List.getElem?_cons_succ]; rfl) (fun K hK => ?_) AllReadyH.nil)
            go_simp
            refine hK.out _ _ ?_ (fun hHeld2 => ?_)
            · first | (with_reducible exact HS.out _ HB.out.drew) | (with_reducible exact HS.out _ HB1.out) | (with_reducible exact HS.out _ (HB1.out.alloc HB1.out.size _)) | (with_reducible exact HS.out _ HB9.out) | (with_reducible exact HS.out _ (HB9.out.setCell HG0.out _))
            clear hK K hHeld
            have hHeld := hHeld2
            clear hHeld2
            try simp only [Act.put, List.getElem_toArray, List.getElem_cons_zero, List.getElem_cons_succ, List.setIfInBounds_toArray, List.set_cons_zero, List.set_cons_succ]
            refine wpAnyH_ready (rs := [8]) (by kernel_rfl) (by simp) ?_
            refine (AllReadyH.cons (o := _) (by simp only [List.getElem?_toArray, List.getElem?_cons_zero, List.getElem?_cons_succ]; rfl) (fun K hK => ?_) AllReadyH.nil)
            refine Kd.N_append_step kMail (w0 := wx) (g + 1) (by rfl) (.tmp 58) (.tmp 64) 22 46 (.agg #[.bool false, .string ⟨#[]⟩, .string ⟨#[]⟩, .slice none 0 0, .slice none 0 0, .bool false, .string ⟨#[]⟩, .int .i64 0]) 120 (by rfl) Tryz.underlying22 infoMail rfl (by decide) (by omega) (.slice A3 j c3) ((l.take j).map B.plain) (B.plain m) (mcs (B.plain m) At ct Ab cb) (fun k => g < k) (fun k => wx.heap.size ≤ k) (by rfl) (by rfl) (mail_FK (m := B.plain m) (kMail_mkM (m := B.plain m) HTo.out HBo.out)) (fun k hk => ⟨Nat.lt_of_lt_of_le (Array.getElem?_eq_some_iff.1 HROW.out).1 hk, fun e => absurd (Kd.N_lt HN.out k e.symm) (by omega)⟩) (fun k hk => Nat.lt_of_lt_of_le (Array.getElem?_eq_some_iff.1 (row_on HW1.out HROW.out)).1 hk) (Kd.N_below HN.out HW1.out) (HW1.out.mono (Array.getElem?_eq_some_iff.1 HROW.out).1) (Array.getElem?_eq_some_iff.1 (row_on HW1.out HROW.out)).1 (by have := HNL.out; omega) ?_
            intro v9 w9 hN9 hB9 hg9 _
            obtain ⟨A9, c9, e9⟩ := Kd.N_slice hN9
            obtain ⟨N9, hN9l⟩ : ∃ N, N = (((l.take j).map B.plain) ++ [B.plain m]).length := ⟨_, rfl⟩
            rw [← hN9l] at e9; subst e9
            have HN9 := Aside0.mk hN9; have HB9 := Aside0.mk (HB.out.trans (hB9.mono (Nat.le_succ_of_le HG0.out))); have HL9 := Aside0.mk hN9l; have hr9 := (hB9.block g (Nat.lt_succ_self g)).trans HROW.out; have HR9 := Aside0.mk hr9; have fr9 := (cells3 hr9).2.2.2.2.2; have k9 := (cells3 hr9).2.2.1; clear hN9 hB9 hg9 hN9l hr9
            refine hK.out _ _ ?_ (fun hHeld2 => ?_)
            · first | (with_reducible exact HS.out _ HB.out.drew) | (with_reducible exact HS.out _ HB1.out) | (with_reducible exact HS.out _ (HB1.out.alloc HB1.out.size _)) | (with_reducible exact HS.out _ HB9.out) | (with_reducible exact HS.out _ (HB9.out.setCell HG0.out _))
            clear hK K hHeld
            have hHeld := hHeld2
            clear hHeld2
            try simp only [Act.put, List.getElem_toArray, List.getElem_cons_zero, List.getElem_cons_succ, List.setIfInBounds_toArray, List.set_cons_zero, List.set_cons_succ]
            refine wpAnyH_take (i := 9) (oi := _) (v := ?_) rfl (by kernel_rfl) (by kernel_rfl) (by kernel_rfl) (fun _ _ _ h => h) (Or.inl ⟨by rfl, ?_⟩) (by assumption) ?_
            case refine_2 => (intro w hSw; (try dsimp only [List.getElem_toArray, List.getElem_cons_zero, List.getElem_cons_succ] at hSw ⊢); go_simp; (try with_reducible rfl))
            try simp only [Act.put, List.getElem_toArray, List.getElem_cons_zero, List.getElem_cons_succ, List.setIfInBounds_toArray, List.set_cons_zero, List.set_cons_succ]
            refine wpAnyH_ready (rs := [10]) (by kernel_rfl) (by simp) ?_
            refine (AllReadyH.cons (o := _) (by simp only [List.getElem?_toArray, List.getElem?_cons_zero, List.getElem?_cons_succ]; rfl) (fun K hK => ?_) AllReadyH.nil)
            go_simp
            refine hK.out _ _ ?_ (fun hHeld2 => ?_)
            · first | (with_reducible exact HS.out _ HB.out.drew) | (with_reducible exact HS.out _ HB1.out) | (with_reducible exact HS.out _ (HB1.out.alloc HB1.out.size _)) | (with_reducible exact HS.out _ HB9.out) | (with_reducible exact HS.out _ (HB9.out.setCell HG0.out _))
            clear hK K hHeld
            have hHeld := hHeld2
            clear hHeld2
            try simp only [Act.put, List.getElem_toArray, List.getElem_cons_zero, List.getElem_cons_succ, List.setIfInBounds_toArray, List.set_cons_zero, List.set_cons_succ]
            refine wpAnyH_done (by kernel_rfl) ?_ _
            have hl9 : N9 = j + 1 := by rw [HL9.out, List.length_append, List.length_map, List.length_take]; simp; omega
            subst hl9
            go_wp2_with (fail)
            go_roundg (go - 1)
            case measure => omega
            case rel => exact ⟨j + 1, by go_num, by omega, by omega, ⟨A9, c9, setCell_row3 _ HR9.out, by rw [HFT.out]; exact Ng.set HN9.out _ _, HB9.out.setCell HG0.out _⟩⟩
          · skip
            go_simp
            refine hK.out _ _ ?_ (fun hHeld2 => ?_)
            · first | (with_reducible exact HS.out _ HB.out.drew) | (with_reducible exact HS.out _ HB1.out) | (with_reducible exact HS.out _ (HB1.out.alloc HB1.out.size _)) | (with_reducible exact HS.out _ HB9.out) | (with_reducible exact HS.out _ (HB9.out.setCell HG0.out _))
            clear hK K hHeld
            have hHeld := hHeld2
            clear hHeld2
            try simp only [Act.put, List.getElem_toArray, List.getElem_cons_zero, List.getElem_cons_succ, List.setIfInBounds_toArray, List.set_cons_zero, List.set_cons_succ]
            refine wpAnyH_ready (rs := [1]) (by kernel_rfl) (by simp) ?_
            refine (AllReadyH.cons (o := _) (by simp only [List.getElem?_toArray, List.getElem?_cons_zero, List.getElem?_cons_succ]; rfl) (fun K hK => ?_) AllReadyH.nil)
            go_simp
            refine hK.out _ _ ?_ (fun hHeld2 => ?_)
            · first | (with_reducible exact HS.out _ HB.out.drew) | (with_reducible exact HS.out _ HB1.out) | (with_reducible exact HS.out _ (HB1.out.alloc HB1.out.size _)) | (with_reducible exact HS.out _ HB9.out) | (with_reducible exact HS.out _ (HB9.out.setCell HG0.out _))
            clear hK K hHeld
            have hHeld := hHeld2
            clear hHeld2
            try simp only [Act.put, List.getElem_toArray, List.getElem_cons_zero, List.getElem_cons_succ, List.setIfInBounds_toArray, List.set_cons_zero, List.set_cons_succ]
            refine wpAnyH_ready (rs := [8]) (by kernel_rfl) (by simp) ?_
            refine (AllReadyH.cons (o := _) (by simp only [List.getElem?_toArray, List.getElem?_cons_zero, List.getElem?_cons_succ]; rfl) (fun K hK => ?_) AllReadyH.nil)
            refine Kd.N_append_step kMail (w0 := wx) (g + 1) (by rfl) (.tmp 58) (.tmp 64) 22 46 (.agg #[.bool false, .string ⟨#[]⟩, .string ⟨#[]⟩, .slice none 0 0, .slice none 0 0, .bool false, .string ⟨#[]⟩, .int .i64 0]) 120 (by rfl) Tryz.underlying22 infoMail rfl (by decide) (by omega) (.slice A3 j c3) ((l.take j).map B.plain) (B.plain m) (mcs (B.plain m) At ct Ab cb) (fun k => g < k) (fun k => wx.heap.size ≤ k) (by rfl) (by rfl) (mail_FK (m := B.plain m) (kMail_mkM (m := B.plain m) HTo.out HBo.out)) (fun k hk => ⟨Nat.lt_of_lt_of_le (Array.getElem?_eq_some_iff.1 HROW.out).1 hk, fun e => absurd (Kd.N_lt HN.out k e.symm) (by omega)⟩) (fun k hk => Nat.lt_of_lt_of_le (Array.getElem?_eq_some_iff.1 (row_on HW1.out HROW.out)).1 hk) (Kd.N_below HN.out HW1.out) (HW1.out.mono (Array.getElem?_eq_some_iff.1 HROW.out).1) (Array.getElem?_eq_some_iff.1 (row_on HW1.out HROW.out)).1 (by have := HNL.out; omega) ?_
            intro v9 w9 hN9 hB9 hg9 _
            obtain ⟨A9, c9, e9⟩ := Kd.N_slice hN9
            obtain ⟨N9, hN9l⟩ : ∃ N, N = (((l.take j).map B.plain) ++ [B.plain m]).length := ⟨_, rfl⟩
            rw [← hN9l] at e9; subst e9
            have HN9 := Aside0.mk hN9; have HB9 := Aside0.mk (HB.out.trans (hB9.mono (Nat.le_succ_of_le HG0.out))); have HL9 := Aside0.mk hN9l; have hr9 := (hB9.block g (Nat.lt_succ_self g)).trans HROW.out; have HR9 := Aside0.mk hr9; have fr9 := (cells3 hr9).2.2.2.2.2; have k9 := (cells3 hr9).2.2.1; clear hN9 hB9 hg9 hN9l hr9
            refine hK.out _ _ ?_ (fun hHeld2 => ?_)
            · first | (with_reducible exact HS.out _ HB.out.drew) | (with_reducible exact HS.out _ HB1.out) | (with_reducible exact HS.out _ (HB1.out.alloc HB1.out.size _)) | (with_reducible exact HS.out _ HB9.out) | (with_reducible exact HS.out _ (HB9.out.setCell HG0.out _))
            clear hK K hHeld
            have hHeld := hHeld2
            clear hHeld2
            try simp only [Act.put, List.getElem_toArray, List.getElem_cons_zero, List.getElem_cons_succ, List.setIfInBounds_toArray, List.set_cons_zero, List.set_cons_succ]
            refine wpAnyH_take (i := 9) (oi := _) (v := ?_) rfl (by kernel_rfl) (by kernel_rfl) (by kernel_rfl) (fun _ _ _ h => h) (Or.inl ⟨by rfl, ?_⟩) (by assumption) ?_
            case refine_2 => (intro w hSw; (try dsimp only [List.getElem_toArray, List.getElem_cons_zero, List.getElem_cons_succ] at hSw ⊢); go_simp; (try with_reducible rfl))
            try simp only [Act.put, List.getElem_toArray, List.getElem_cons_zero, List.getElem_cons_succ, List.setIfInBounds_toArray, List.set_cons_zero, List.set_cons_succ]
            refine wpAnyH_ready (rs := [10]) (by kernel_rfl) (by simp) ?_
            refine (AllReadyH.cons (o := _) (by simp only [List.getElem?_toArray, List.getElem?_cons_zero, List.getElem?_cons_succ]; rfl) (fun K hK => ?_) AllReadyH.nil)
            go_simp
            refine hK.out _ _ ?_ (fun hHeld2 => ?_)
            · first | (with_reducible exact HS.out _ HB.out.drew) | (with_reducible exact HS.out _ HB1.out) | (with_reducible exact HS.out _ (HB1.out.alloc HB1.out.size _)) | (with_reducible exact HS.out _ HB9.out) | (with_reducible exact HS.out _ (HB9.out.setCell HG0.out _))
            clear hK K hHeld
            have hHeld := hHeld2
            clear hHeld2
            try simp only [Act.put, List.getElem_toArray, List.getElem_cons_zero, List.getElem_cons_succ, List.setIfInBounds_toArray, List.set_cons_zero, List.set_cons_succ]
            refine wpAnyH_done (by kernel_rfl) ?_ _
            have hl9 : N9 = j + 1 := by rw [HL9.out, List.length_append, List.length_map, List.length_take]; simp; omega
            subst hl9
            go_wp2_with (fail)
            go_roundg (go - 1)
            case measure => omega
            case rel => exact ⟨j + 1, by go_num, by omega, by omega, ⟨A9, c9, setCell_row3 _ HR9.out, by rw [HFT.out]; exact Ng.set HN9.out _ _, HB9.out.setCell HG0.out _⟩⟩
      · have hne : T = j := by omega
        subst hne
        have t4 : decide ((T : Int) < (T : Int)) = false := by simp
        have hNr := (Kd.N_reads' HN.out).2
        rw [← HL1.out, HL1l.out] at hNr
        have HC3 := Aside0.mk hNr.1
        have hcr := hNr.2
        rw [← HL1l.out] at hcr
        have HBY1 := Aside0.mk (show ∀ W, Below wx.heap.size wx W → _ from fun W hW => HBY.out (HL.out (by trivial)) W A3 c3 (HB.out.trans (hW.mono HB.out.size)) (Kd.C_below hcr hW) HC3.out)
        have HRX1 := Aside0.mk (show ∀ W A1 c1, Below wx.heap.size wx W → Bt W A1 c1 X1 → _ from fun W A1 c1 hW hb => HRX.out W A1 c1 (HB.out.trans (hW.mono HB.out.size)) hb)
        have HKB1 := Aside0.mk (show ∀ W A1 c1, Below wx.heap.size wx W → Bn W ⟨o, n, L1⟩ A1 c1 → _ from fun W A1 c1 hW hb => HKB.out (HL.out (by trivial)) W A1 c1 A3 c3 hb (Kd.C_below hcr hW) HC3.out)
        have HWK1 := Aside0.mk (show ∀ W, Below wx.heap.size wx W → _ from fun W hW => HWK.out W (HB.out.trans (hW.mono HB.out.size)))
        have HWX := Aside0.mk (Below.refl wx.heap.size wx)
        clear hNr hcr
        by_cases he1 : T = l.length
        · have e1 : ((T : Int) == (l.length : Int)) = true := beq_iff_eq.2 (by omega)
          clear he1
          go_wp2_with (first | (go_at_call 13; (with_reducible refine Calls.mono (HBY1.out _ (by first | exact HWX.out | exact HWX.out.alloc HWX.out.size _)) ?_); rintro e wq ⟨⟨A5, c5, rfl, hbt⟩, h⟩; have hwN := (by first | exact HWX.out.trans (h.mono HWX.out.size) | exact (HWX.out.alloc HWX.out.size _).trans (h.mono (HWX.out.alloc HWX.out.size _).size) : Below wx.heap.size wx wq); have hrN := row_on hwN HROW.out; have HF := Aside0.mk hbt; clear hbt; clear HWX h; (try clear HR); have HWX := Aside0.mk hwN; have HR := Aside0.mk hrN; clear hwN hrN; (try clear b0 b1 b2 g0 g1 g2); (try clear hne d0 d1 d2); obtain ⟨b0, b1, b2, g0, g1, g2⟩ := cells3 HR.out; have hne := Nat.ne_of_lt (Array.getElem?_eq_some_iff.1 HR.out).1; have d0 := fun o => (cells3 (row_on ((Below.refl wq.heap.size wq).alloc (Nat.le_refl _) o) HR.out)).1; have d1 := fun o => (cells3 (row_on ((Below.refl wq.heap.size wq).alloc (Nat.le_refl _) o) HR.out)).2.1; have d2 := fun o => (cells3 (row_on ((Below.refl wq.heap.size wq).alloc (Nat.le_refl _) o) HR.out)).2.2.1) | (go_at_call 15; (with_reducible refine Calls.mono (HRX1.out _ _ _ (by first | exact HWX.out | exact HWX.out.alloc HWX.out.size _) HF.out) ?_); rintro e wq ⟨⟨A6, c6, rfl, hbn⟩, h⟩; have hwN := (by first | exact HWX.out.trans (h.mono HWX.out.size) | exact (HWX.out.alloc HWX.out.size _).trans (h.mono (HWX.out.alloc HWX.out.size _).size) : Below wx.heap.size wx wq); have hrN := row_on hwN HROW.out; have HBN := Aside0.mk hbn; clear hbn; clear HWX h; (try clear HR); have HWX := Aside0.mk hwN; have HR := Aside0.mk hrN; clear hwN hrN; (try clear b0 b1 b2 g0 g1 g2); (try clear hne d0 d1 d2); obtain ⟨b0, b1, b2, g0, g1, g2⟩ := cells3 HR.out; have hne := Nat.ne_of_lt (Array.getElem?_eq_some_iff.1 HR.out).1; have d0 := fun o => (cells3 (row_on ((Below.refl wq.heap.size wq).alloc (Nat.le_refl _) o) HR.out)).1; have d1 := fun o => (cells3 (row_on ((Below.refl wq.heap.size wq).alloc (Nat.le_refl _) o) HR.out)).2.1; have d2 := fun o => (cells3 (row_on ((Below.refl wq.heap.size wq).alloc (Nat.le_refl _) o) HR.out)).2.2.1) | (go_at_call 22; (with_reducible refine Calls.mono (HKB1.out _ _ _ (by first | exact HWX.out | exact HWX.out.alloc HWX.out.size _) (by first | exact HBN.out | exact HBN.out.on ((Below.refl _ _).alloc (Nat.le_refl _) _))) ?_); rintro e wq ⟨rfl, h⟩; have hwN := (by first | exact HWX.out.trans (h.mono HWX.out.size) | exact (HWX.out.alloc HWX.out.size _).trans (h.mono (HWX.out.alloc HWX.out.size _).size) : Below wx.heap.size wx wq); have hrN := row_on hwN HROW.out; clear HWX h; (try clear HR); have HWX := Aside0.mk hwN; have HR := Aside0.mk hrN; clear hwN hrN; (try clear b0 b1 b2 g0 g1 g2); (try clear hne d0 d1 d2); obtain ⟨b0, b1, b2, g0, g1, g2⟩ := cells3 HR.out; have hne := Nat.ne_of_lt (Array.getElem?_eq_some_iff.1 HR.out).1; have d0 := fun o => (cells3 (row_on ((Below.refl wq.heap.size wq).alloc (Nat.le_refl _) o) HR.out)).1; have d1 := fun o => (cells3 (row_on ((Below.refl wq.heap.size wq).alloc (Nat.le_refl _) o) HR.out)).2.1; have d2 := fun o => (cells3 (row_on ((Below.refl wq.heap.size wq).alloc (Nat.le_refl _) o) HR.out)).2.2.1) | (go_at_call 25; (with_reducible refine Calls.mono (HWK1.out _ (by first | exact HWX.out | exact HWX.out.alloc HWX.out.size _)) ?_); rintro e wq ⟨rfl, h⟩; have hwN := (by first | exact HWX.out.trans (h.mono HWX.out.size) | exact (HWX.out.alloc HWX.out.size _).trans (h.mono (HWX.out.alloc HWX.out.size _).size) : Below wx.heap.size wx wq); have hrN := row_on hwN HROW.out; clear HWX h; (try clear HR); have HWX := Aside0.mk hwN; have HR := Aside0.mk hrN; clear hwN hrN; (try clear b0 b1 b2 g0 g1 g2); (try clear hne d0 d1 d2); obtain ⟨b0, b1, b2, g0, g1, g2⟩ := cells3 HR.out; have hne := Nat.ne_of_lt (Array.getElem?_eq_some_iff.1 HR.out).1; have d0 := fun o => (cells3 (row_on ((Below.refl wq.heap.size wq).alloc (Nat.le_refl _) o) HR.out)).1; have d1 := fun o => (cells3 (row_on ((Below.refl wq.heap.size wq).alloc (Nat.le_refl _) o) HR.out)).2.1; have d2 := fun o => (cells3 (row_on ((Below.refl wq.heap.size wq).alloc (Nat.le_refl _) o) HR.out)).2.2.1))
          all_goals
            go_ret
            exact ⟨rfl, HB.out.trans (HWX.out.mono HB.out.size)⟩
        · have e1 : ((T : Int) == (l.length : Int)) = false := beq_eq_false_iff_ne.2 (by omega)
          by_cases he2 : T = 4
          · have e2 : ((T : Int) == 4) = true := beq_iff_eq.2 (by omega)
            clear he1 he2
            go_wp2_with (first | (go_at_call 13; (with_reducible refine Calls.mono (HBY1.out _ (by first | exact HWX.out | exact HWX.out.alloc HWX.out.size _)) ?_); rintro e wq ⟨⟨A5, c5, rfl, hbt⟩, h⟩; have hwN := (by first | exact HWX.out.trans (h.mono HWX.out.size) | exact (HWX.out.alloc HWX.out.size _).trans (h.mono (HWX.out.alloc HWX.out.size _).size) : Below wx.heap.size wx wq); have hrN := row_on hwN HROW.out; have HF := Aside0.mk hbt; clear hbt; clear HWX h; (try clear HR); have HWX := Aside0.mk hwN; have HR := Aside0.mk hrN; clear hwN hrN; (try clear b0 b1 b2 g0 g1 g2); (try clear hne d0 d1 d2); obtain ⟨b0, b1, b2, g0, g1, g2⟩ := cells3 HR.out; have hne := Nat.ne_of_lt (Array.getElem?_eq_some_iff.1 HR.out).1; have d0 := fun o => (cells3 (row_on ((Below.refl wq.heap.size wq).alloc (Nat.le_refl _) o) HR.out)).1; have d1 := fun o => (cells3 (row_on ((Below.refl wq.heap.size wq).alloc (Nat.le_refl _) o) HR.out)).2.1; have d2 := fun o => (cells3 (row_on ((Below.refl wq.heap.size wq).alloc (Nat.le_refl _) o) HR.out)).2.2.1) | (go_at_call 15; (with_reducible refine Calls.mono (HRX1.out _ _ _ (by first | exact HWX.out | exact HWX.out.alloc HWX.out.size _) HF.out) ?_); rintro e wq ⟨⟨A6, c6, rfl, hbn⟩, h⟩; have hwN := (by first | exact HWX.out.trans (h.mono HWX.out.size) | exact (HWX.out.alloc HWX.out.size _).trans (h.mono (HWX.out.alloc HWX.out.size _).size) : Below wx.heap.size wx wq); have hrN := row_on hwN HROW.out; have HBN := Aside0.mk hbn; clear hbn; clear HWX h; (try clear HR); have HWX := Aside0.mk hwN; have HR := Aside0.mk hrN; clear hwN hrN; (try clear b0 b1 b2 g0 g1 g2); (try clear hne d0 d1 d2); obtain ⟨b0, b1, b2, g0, g1, g2⟩ := cells3 HR.out; have hne := Nat.ne_of_lt (Array.getElem?_eq_some_iff.1 HR.out).1; have d0 := fun o => (cells3 (row_on ((Below.refl wq.heap.size wq).alloc (Nat.le_refl _) o) HR.out)).1; have d1 := fun o => (cells3 (row_on ((Below.refl wq.heap.size wq).alloc (Nat.le_refl _) o) HR.out)).2.1; have d2 := fun o => (cells3 (row_on ((Below.refl wq.heap.size wq).alloc (Nat.le_refl _) o) HR.out)).2.2.1) | (go_at_call 22; (with_reducible refine Calls.mono (HKB1.out _ _ _ (by first | exact HWX.out | exact HWX.out.alloc HWX.out.size _) (by first | exact HBN.out | exact HBN.out.on ((Below.refl _ _).alloc (Nat.le_refl _) _))) ?_); rintro e wq ⟨rfl, h⟩; have hwN := (by first | exact HWX.out.trans (h.mono HWX.out.size) | exact (HWX.out.alloc HWX.out.size _).trans (h.mono (HWX.out.alloc HWX.out.size _).size) : Below wx.heap.size wx wq); have hrN := row_on hwN HROW.out; clear HWX h; (try clear HR); have HWX := Aside0.mk hwN; have HR := Aside0.mk hrN; clear hwN hrN; (try clear b0 b1 b2 g0 g1 g2); (try clear hne d0 d1 d2); obtain ⟨b0, b1, b2, g0, g1, g2⟩ := cells3 HR.out; have hne := Nat.ne_of_lt (Array.getElem?_eq_some_iff.1 HR.out).1; have d0 := fun o => (cells3 (row_on ((Below.refl wq.heap.size wq).alloc (Nat.le_refl _) o) HR.out)).1; have d1 := fun o => (cells3 (row_on ((Below.refl wq.heap.size wq).alloc (Nat.le_refl _) o) HR.out)).2.1; have d2 := fun o => (cells3 (row_on ((Below.refl wq.heap.size wq).alloc (Nat.le_refl _) o) HR.out)).2.2.1) | (go_at_call 25; (with_reducible refine Calls.mono (HWK1.out _ (by first | exact HWX.out | exact HWX.out.alloc HWX.out.size _)) ?_); rintro e wq ⟨rfl, h⟩; have hwN := (by first | exact HWX.out.trans (h.mono HWX.out.size) | exact (HWX.out.alloc HWX.out.size _).trans (h.mono (HWX.out.alloc HWX.out.size _).size) : Below wx.heap.size wx wq); have hrN := row_on hwN HROW.out; clear HWX h; (try clear HR); have HWX := Aside0.mk hwN; have HR := Aside0.mk hrN; clear hwN hrN; (try clear b0 b1 b2 g0 g1 g2); (try clear hne d0 d1 d2); obtain ⟨b0, b1, b2, g0, g1, g2⟩ := cells3 HR.out; have hne := Nat.ne_of_lt (Array.getElem?_eq_some_iff.1 HR.out).1; have d0 := fun o => (cells3 (row_on ((Below.refl wq.heap.size wq).alloc (Nat.le_refl _) o) HR.out)).1; have d1 := fun o => (cells3 (row_on ((Below.refl wq.heap.size wq).alloc (Nat.le_refl _) o) HR.out)).2.1; have d2 := fun o => (cells3 (row_on ((Below.refl wq.heap.size wq).alloc (Nat.le_refl _) o) HR.out)).2.2.1))
            all_goals
              go_ret
              exact ⟨rfl, HB.out.trans (HWX.out.mono HB.out.size)⟩
          · have e2 : ((T : Int) == 4) = false := beq_eq_false_iff_ne.2 (by omega)
            have hTl2 : T < l.length := by omega
            have hy0 := HY0.out hTl2 (by omega)
            have hy1 : (Y2 != 0) = true := by rw [bne, hy0]; rfl
            clear he1 he2
            go_upto_region 19 with (first | (go_at_call 13; (with_reducible refine Calls.mono (HBY1.out _ (by first | exact HWX.out | exact HWX.out.alloc HWX.out.size _)) ?_); rintro e wq ⟨⟨A5, c5, rfl, hbt⟩, h⟩; have hwN := (by first | exact HWX.out.trans (h.mono HWX.out.size) | exact (HWX.out.alloc HWX.out.size _).trans (h.mono (HWX.out.alloc HWX.out.size _).size) : Below wx.heap.size wx wq); have hrN := row_on hwN HROW.out; have HF := Aside0.mk hbt; clear hbt; clear HWX h; (try clear HR); have HWX := Aside0.mk hwN; have HR := Aside0.mk hrN; clear hwN hrN; (try clear b0 b1 b2 g0 g1 g2); (try clear hne d0 d1 d2); obtain ⟨b0, b1, b2, g0, g1, g2⟩ := cells3 HR.out; have hne := Nat.ne_of_lt (Array.getElem?_eq_some_iff.1 HR.out).1; have d0 := fun o => (cells3 (row_on ((Below.refl wq.heap.size wq).alloc (Nat.le_refl _) o) HR.out)).1; have d1 := fun o => (cells3 (row_on ((Below.refl wq.heap.size wq).alloc (Nat.le_refl _) o) HR.out)).2.1; have d2 := fun o => (cells3 (row_on ((Below.refl wq.heap.size wq).alloc (Nat.le_refl _) o) HR.out)).2.2.1) | (go_at_call 15; (with_reducible refine Calls.mono (HRX1.out _ _ _ (by first | exact HWX.out | exact HWX.out.alloc HWX.out.size _) HF.out) ?_); rintro e wq ⟨⟨A6, c6, rfl, hbn⟩, h⟩; have hwN := (by first | exact HWX.out.trans (h.mono HWX.out.size) | exact (HWX.out.alloc HWX.out.size _).trans (h.mono (HWX.out.alloc HWX.out.size _).size) : Below wx.heap.size wx wq); have hrN := row_on hwN HROW.out; have HBN := Aside0.mk hbn; clear hbn; clear HWX h; (try clear HR); have HWX := Aside0.mk hwN; have HR := Aside0.mk hrN; clear hwN hrN; (try clear b0 b1 b2 g0 g1 g2); (try clear hne d0 d1 d2); obtain ⟨b0, b1, b2, g0, g1, g2⟩ := cells3 HR.out; have hne := Nat.ne_of_lt (Array.getElem?_eq_some_iff.1 HR.out).1; have d0 := fun o => (cells3 (row_on ((Below.refl wq.heap.size wq).alloc (Nat.le_refl _) o) HR.out)).1; have d1 := fun o => (cells3 (row_on ((Below.refl wq.heap.size wq).alloc (Nat.le_refl _) o) HR.out)).2.1; have d2 := fun o => (cells3 (row_on ((Below.refl wq.heap.size wq).alloc (Nat.le_refl _) o) HR.out)).2.2.1) | (go_at_call 22; (with_reducible refine Calls.mono (HKB1.out _ _ _ (by first | exact HWX.out | exact HWX.out.alloc HWX.out.size _) (by first | exact HBN.out | exact HBN.out.on ((Below.refl _ _).alloc (Nat.le_refl _) _))) ?_); rintro e wq ⟨rfl, h⟩; have hwN := (by first | exact HWX.out.trans (h.mono HWX.out.size) | exact (HWX.out.alloc HWX.out.size _).trans (h.mono (HWX.out.alloc HWX.out.size _).size) : Below wx.heap.size wx wq); have hrN := row_on hwN HROW.out; clear HWX h; (try clear HR); have HWX := Aside0.mk hwN; have HR := Aside0.mk hrN; clear hwN hrN; (try clear b0 b1 b2 g0 g1 g2); (try clear hne d0 d1 d2); obtain ⟨b0, b1, b2, g0, g1, g2⟩ := cells3 HR.out; have hne := Nat.ne_of_lt (Array.getElem?_eq_some_iff.1 HR.out).1; have d0 := fun o => (cells3 (row_on ((Below.refl wq.heap.size wq).alloc (Nat.le_refl _) o) HR.out)).1; have d1 := fun o => (cells3 (row_on ((Below.refl wq.heap.size wq).alloc (Nat.le_refl _) o) HR.out)).2.1; have d2 := fun o => (cells3 (row_on ((Below.refl wq.heap.size wq).alloc (Nat.le_refl _) o) HR.out)).2.2.1) | (go_at_call 25; (with_reducible refine Calls.mono (HWK1.out _ (by first | exact HWX.out | exact HWX.out.alloc HWX.out.size _)) ?_); rintro e wq ⟨rfl, h⟩; have hwN := (by first | exact HWX.out.trans (h.mono HWX.out.size) | exact (HWX.out.alloc HWX.out.size _).trans (h.mono (HWX.out.alloc HWX.out.size _).size) : Below wx.heap.size wx wq); have hrN := row_on hwN HROW.out; clear HWX h; (try clear HR); have HWX := Aside0.mk hwN; have HR := Aside0.mk hrN; clear hwN hrN; (try clear b0 b1 b2 g0 g1 g2); (try clear hne d0 d1 d2); obtain ⟨b0, b1, b2, g0, g1, g2⟩ := cells3 HR.out; have hne := Nat.ne_of_lt (Array.getElem?_eq_some_iff.1 HR.out).1; have d0 := fun o => (cells3 (row_on ((Below.refl wq.heap.size wq).alloc (Nat.le_refl _) o) HR.out)).1; have d1 := fun o => (cells3 (row_on ((Below.refl wq.heap.size wq).alloc (Nat.le_refl _) o) HR.out)).2.1; have d2 := fun o => (cells3 (row_on ((Below.refl wq.heap.size wq).alloc (Nat.le_refl _) o) HR.out)).2.2.1))
            obtain ⟨wy, rfl⟩ : ∃ wz : World, wz = wq := ⟨_, rfl⟩
            have HB2 := Aside0.mk (HB.out.trans (HWX.out.mono HB.out.size))
            have HN2 := Aside0.mk (Kd.N_below HN.out HWX.out)
            clear hne d0 d1 d2
            obtain ⟨m, hm⟩ : ∃ m, m = l.getD T B.noMail := ⟨_, rfl⟩
            obtain ⟨ad, A1, c1, A2, c2, rfl, hmc, hml⟩ := mail_at HX.out T hTl2 m hm
            obtain ⟨q0, q1, q2, q3, q4, q5, q6, q7⟩ := hmc.on HB2.out
            have HEL := Aside0.mk hmc
            have h0 : (0 : Int) ≤ (T : Int) := by omega
            have hjl' : (T : Int) < (l.length : Int) := by omega
            have hfx : B.Fit m := (lights_fit (HL.out (by trivial))).2 _ (by rw [hm]; exact getD_mem l T hTl2 _)
            have hpl : ∀ W, Below wy.heap.size wy W → Calls Tryz.prog 26 #[.agg #[.bool m.frm.null, .string (str m.frm.loc), .string (str m.frm.dom), .slice A1 m.to.length c1, .slice A2 m.body.length c2, .bool m.quiet, .string (str m.helo), .int .i64 m.tm]] W fun e w' => (∃ A c A' c', e = .returned (.agg #[.bool m.frm.null, .string (str m.frm.loc), .string (str m.frm.dom), .slice A m.to.length c, .slice A' m.body.length c', .bool false, .string { data := #[] }, .int .i64 0]) ∧ Ps wy.heap.size w' (.slice A m.to.length c) m.to ∧ Ow wy.heap.size w' (.slice A' m.body.length c') m.body) ∧ Below W.heap.size W w' := fun W hW => (rplain_any m A1 c1 A2 c2 W ((hml.on HB2.out).on hW) hfx).mono (by
              rintro e w' ⟨⟨A, c, A', c', rfl, h1, h2⟩, h3⟩
              exact ⟨⟨A, c, A', c', rfl, Kd.R_lower h1 hW.size, h2.low hW.size⟩, h3⟩)
            have HPL := Aside0.mk hpl
            have HQ0 := Aside0.mk (And.intro b2 (And.intro q0 (And.intro q1 (And.intro q2 (And.intro q3 (And.intro q4 (And.intro q5 (And.intro q6 q7))))))))
            have HNL := Aside0.mk (show ((l.take T).map B.plain).length ≤ 1000 by rw [List.length_map, List.length_take]; omega)
            clear hmc hml hfx hpl
            have hft := map_take B.plain l T hTl2 B.noMail
            rw [← hm, ← HL2.out] at hft
            have HFT := Aside0.mk hft
            clear hm hft
            have HS := Aside0.mk (fun W (hW : Below w.heap.size w W) => (HEL.out.on hW).all)
            refine wp_region_held_drew (S := (fun w' => w'.cell? (ad.add (T * 8)) = some (.bool m.frm.null) ∧ w'.cell? ⟨(ad.add (T * 8)).block, (ad.add (T * 8)).off + 1, none⟩ = some (.string (str m.frm.loc)) ∧ w'.cell? ⟨(ad.add (T * 8)).block, (ad.add (T * 8)).off + 2, none⟩ = some (.string (str m.frm.dom)) ∧ w'.cell? ⟨(ad.add (T * 8)).block, (ad.add (T * 8)).off + 3, none⟩ = some (.slice A1 m.to.length c1) ∧ w'.cell? ⟨(ad.add (T * 8)).block, (ad.add (T * 8)).off + 4, none⟩ = some (.slice A2 m.body.length c2) ∧ w'.cell? ⟨(ad.add (T * 8)).block, (ad.add (T * 8)).off + 5, none⟩ = some (.bool m.quiet) ∧ w'.cell? ⟨(ad.add (T * 8)).block, (ad.add (T * 8)).off + 6, none⟩ = some (.string (str m.helo)) ∧ w'.cell? ⟨(ad.add (T * 8)).block, (ad.add (T * 8)).off + 7, none⟩ = some (.int .i64 m.tm))) (by kernel_rfl) ?_ (fun hHeld => ?_)
            · exact HS.out _ HB2.out.drew
            refine wpAnyH_take (i := 0) (oi := _) (v := ?_) rfl (by kernel_rfl) (by kernel_rfl) (by kernel_rfl) (fun _ _ _ h => h) (Or.inl ⟨by rfl, ?_⟩) (by assumption) ?_
            case refine_2 => (intro w hSw; (try dsimp only [List.getElem_toArray, List.getElem_cons_zero, List.getElem_cons_succ] at hSw ⊢); go_simp; (try with_reducible rfl))
            try simp only [Act.put, List.getElem_toArray, List.getElem_cons_zero, List.getElem_cons_succ, List.setIfInBounds_toArray, List.set_cons_zero, List.set_cons_succ]
            refine wpAnyH_take (i := 2) (oi := _) (v := ?_) rfl (by kernel_rfl) (by kernel_rfl) (by kernel_rfl) (fun _ _ _ h => h) (Or.inl ⟨by rfl, ?_⟩) (by assumption) ?_
            case refine_2 => (intro w hSw; (try dsimp only [List.getElem_toArray, List.getElem_cons_zero, List.getElem_cons_succ] at hSw ⊢); go_simp; (try with_reducible rfl))
            try simp only [Act.put, List.getElem_toArray, List.getElem_cons_zero, List.getElem_cons_succ, List.setIfInBounds_toArray, List.set_cons_zero, List.set_cons_succ]
            refine wpAnyH_take (i := 3) (oi := _) (v := ?_) rfl (by kernel_rfl) (by kernel_rfl) (by kernel_rfl) (fun _ _ _ h => h) (Or.inl ⟨by rfl, ?_⟩) (by assumption) ?_
            case refine_2 => (intro w hSw; (try dsimp only [List.getElem_toArray, List.getElem_cons_zero, List.getElem_cons_succ] at hSw ⊢); go_simp; (try with_reducible rfl))
            try simp only [Act.put, List.getElem_toArray, List.getElem_cons_zero, List.getElem_cons_succ, List.setIfInBounds_toArray, List.set_cons_zero, List.set_cons_succ]
            refine wpAnyH_take (i := 4) (oi := _) (v := ?_) rfl (by kernel_rfl) (by kernel_rfl) (by kernel_rfl) (fun _ _ _ h => h) (Or.inl ⟨by rfl, ?_⟩) (by assumption) ?_
            case refine_2 => (intro w hSw; (try dsimp only [List.getElem_toArray, List.getElem_cons_zero, List.getElem_cons_succ] at hSw ⊢); go_simp; (try with_reducible rfl))
            try simp only [Act.put, List.getElem_toArray, List.getElem_cons_zero, List.getElem_cons_succ, List.setIfInBounds_toArray, List.set_cons_zero, List.set_cons_succ]
            refine wpAnyH_take (i := 5) (oi := _) (v := ?_) rfl (by kernel_rfl) (by kernel_rfl) (by kernel_rfl) (fun _ _ _ h => h) (Or.inl ⟨by rfl, ?_⟩) (by assumption) ?_
            case refine_2 => (intro w hSw; (try dsimp only [List.getElem_toArray, List.getElem_cons_zero, List.getElem_cons_succ] at hSw ⊢); go_simp; (try with_reducible rfl))
            try simp only [Act.put, List.getElem_toArray, List.getElem_cons_zero, List.getElem_cons_succ, List.setIfInBounds_toArray, List.set_cons_zero, List.set_cons_succ]
            refine wpAnyH_ready (rs := [1, 6]) (by kernel_rfl) (by simp) ?_
            refine (AllReadyH.cons (o := _) (by simp only [List.getElem?_toArray, List.getElem?_cons_zero, List.getElem?_cons_succ]; rfl) (fun K hK => ?_) (AllReadyH.cons (o := _) (by simp only [List.getElem?_toArray, List.getElem?_cons_zero, List.getElem?_cons_succ]; rfl) (fun K hK => ?_) AllReadyH.nil))
            · skip
              go_simp
              refine hK.out _ _ ?_ (fun hHeld2 => ?_)
              · first | (with_reducible exact HS.out _ HB2.out.drew) | (with_reducible exact HS.out _ HB1.out) | (with_reducible exact HS.out _ (HB1.out.alloc HB1.out.size _)) | (with_reducible exact HS.out _ HB9.out) | (with_reducible exact HS.out _ (HB9.out.setCell HG0.out _))
              clear hK K hHeld
              have hHeld := hHeld2
              clear hHeld2
              try simp only [Act.put, List.getElem_toArray, List.getElem_cons_zero, List.getElem_cons_succ, List.setIfInBounds_toArray, List.set_cons_zero, List.set_cons_succ]
              refine wpAnyH_ready (rs := [6]) (by kernel_rfl) (by simp) ?_
              refine (AllReadyH.cons (o := _) (by simp only [List.getElem?_toArray, List.getElem?_cons_zero, List.getElem?_cons_succ]; rfl) (fun K hK => ?_) AllReadyH.nil)
              go_simp
              go_at_call 26
              (with_reducible refine Calls.mono (HPL.out _ ?_) ?_)
              · (first | exact Below.refl _ _ | exact (Below.refl _ _).drew)
              rintro e w1 ⟨⟨At, ct, Ab, cb, rfl, hTo, hBo⟩, h⟩
              have hw : Below wy.heap.size wy w1 := (by first | exact h | exact ((Below.refl _ _).drew).trans h)
              have HW1 := Aside0.mk hw; have HTo := Aside0.mk hTo; have HBo := Aside0.mk hBo
              have HB1 := Aside0.mk (HB2.out.trans (hw.mono HB2.out.size))
              have hrow1 := row_on hw HR.out
              have k2 := (cells3 hrow1).2.2.1; have k2a := fun o => (cells3 (row_on ((Below.refl w1.heap.size w1).alloc (Nat.le_refl _) o) hrow1)).2.2.1
              clear h hw hTo hBo hrow1
              go_wp2_with (fail)
              refine hK.out _ _ ?_ (fun hHeld2 => ?_)
              · first | (with_reducible exact HS.out _ HB2.out.drew) | (with_reducible exact HS.out _ HB1.out) | (with_reducible exact HS.out _ (HB1.out.alloc HB1.out.size _)) | (with_reducible exact HS.out _ HB9.out) | (with_reducible exact HS.out _ (HB9.out.setCell HG0.out _))
              clear hK K hHeld
              have hHeld := hHeld2
              clear hHeld2
              try simp only [Act.put, List.getElem_toArray, List.getElem_cons_zero, List.getElem_cons_succ, List.setIfInBounds_toArray, List.set_cons_zero, List.set_cons_succ]
              refine wpAnyH_ready (rs := [7]) (by kernel_rfl) (by simp) ?_
              refine (AllReadyH.cons (o := _) (by simp only [List.getElem?_toArray, List.getElem?_cons_zero, List.getElem?_cons_succ]; rfl) (fun K hK => ?_) AllReadyH.nil)
              go_simp
              refine hK.out _ _ ?_ (fun hHeld2 => ?_)
              · first | (with_reducible exact HS.out _ HB2.out.drew) | (with_reducible exact HS.out _ HB1.out) | (with_reducible exact HS.out _ (HB1.out.alloc HB1.out.size _)) | (with_reducible exact HS.out _ HB9.out) | (with_reducible exact HS.out _ (HB9.out.setCell HG0.out _))
              clear hK K hHeld
              have hHeld := hHeld2
              clear hHeld2
              try simp only [Act.put, List.getElem_toArray, List.getElem_cons_zero, List.getElem_cons_succ, List.setIfInBounds_toArray, List.set_cons_zero, List.set_cons_succ]
              refine wpAnyH_ready (rs := [8]) (by kernel_rfl) (by simp) ?_
              refine (AllReadyH.cons (o := _) (by simp only [List.getElem?_toArray, List.getElem?_cons_zero, List.getElem?_cons_succ]; rfl) (fun K hK => ?_) AllReadyH.nil)
              refine Kd.N_append_step kMail (w0 := wy) (g + 1) (by rfl) (.tmp 99) (.tmp 105) 22 46 (.agg #[.bool false, .string ⟨#[]⟩, .string ⟨#[]⟩, .slice none 0 0, .slice none 0 0, .bool false, .string ⟨#[]⟩, .int .i64 0]) 120 (by rfl) Tryz.underlying22 infoMail rfl (by decide) (by omega) (.slice A3 T c3) ((l.take T).map B.plain) (B.plain m) (mcs (B.plain m) At ct Ab cb) (fun k => g < k) (fun k => wy.heap.size ≤ k) (by rfl) (by rfl) (mail_FK (m := B.plain m) (kMail_mkM (m := B.plain m) HTo.out HBo.out)) (fun k hk => ⟨Nat.lt_of_lt_of_le (Array.getElem?_eq_some_iff.1 HR.out).1 hk, fun e => absurd (Kd.N_lt HN2.out k e.symm) (by omega)⟩) (fun k hk => Nat.lt_of_lt_of_le (Array.getElem?_eq_some_iff.1 (row_on HW1.out HR.out)).1 hk) (Kd.N_below HN2.out HW1.out) (HW1.out.mono (Array.getElem?_eq_some_iff.1 HR.out).1) (Array.getElem?_eq_some_iff.1 (row_on HW1.out HR.out)).1 (by have := HNL.out; omega) ?_
              intro v9 w9 hN9 hB9 hg9 _
              obtain ⟨A9, c9, e9⟩ := Kd.N_slice hN9
              obtain ⟨N9, hN9l⟩ : ∃ N, N = (((l.take T).map B.plain) ++ [B.plain m]).length := ⟨_, rfl⟩
              rw [← hN9l] at e9; subst e9
              have HN9 := Aside0.mk hN9; have HB9 := Aside0.mk (HB2.out.trans (hB9.mono (Nat.le_succ_of_le HG0.out))); have HL9 := Aside0.mk hN9l; have hr9 := (hB9.block g (Nat.lt_succ_self g)).trans HR.out; have HR9 := Aside0.mk hr9; have fr9 := (cells3 hr9).2.2.2.2.2; have k9 := (cells3 hr9).2.2.1; clear hN9 hB9 hg9 hN9l hr9
              refine hK.out _ _ ?_ (fun hHeld2 => ?_)
              · first | (with_reducible exact HS.out _ HB2.out.drew) | (with_reducible exact HS.out _ HB1.out) | (with_reducible exact HS.out _ (HB1.out.alloc HB1.out.size _)) | (with_reducible exact HS.out _ HB9.out) | (with_reducible exact HS.out _ (HB9.out.setCell HG0.out _))
              clear hK K hHeld
              have hHeld := hHeld2
              clear hHeld2
              try simp only [Act.put, List.getElem_toArray, List.getElem_cons_zero, List.getElem_cons_succ, List.setIfInBounds_toArray, List.set_cons_zero, List.set_cons_succ]
              refine wpAnyH_take (i := 9) (oi := _) (v := ?_) rfl (by kernel_rfl) (by kernel_rfl) (by kernel_rfl) (fun _ _ _ h => h) (Or.inl ⟨by rfl, ?_⟩) (by assumption) ?_
              case refine_2 => (intro w hSw; (try dsimp only [List.getElem_toArray, List.getElem_cons_zero, List.getElem_cons_succ] at hSw ⊢); go_simp; (try with_reducible rfl))
              try simp only [Act.put, List.getElem_toArray, List.getElem_cons_zero, List.getElem_cons_succ, List.setIfInBounds_toArray, List.set_cons_zero, List.set_cons_succ]
              refine wpAnyH_ready (rs := [10]) (by kernel_rfl) (by simp) ?_
              refine (AllReadyH.cons (o := _) (by simp only [List.getElem?_toArray, List.getElem?_cons_zero, List.getElem?_cons_succ]; rfl) (fun K hK => ?_) AllReadyH.nil)
              go_simp
              refine hK.out _ _ ?_ (fun hHeld2 => ?_)
              · first | (with_reducible exact HS.out _ HB2.out.drew) | (with_reducible exact HS.out _ HB1.out) | (with_reducible exact HS.out _ (HB1.out.alloc HB1.out.size _)) | (with_reducible exact HS.out _ HB9.out) | (with_reducible exact HS.out _ (HB9.out.setCell HG0.out _))
              clear hK K hHeld
              have hHeld := hHeld2
              clear hHeld2
              try simp only [Act.put, List.getElem_toArray, List.getElem_cons_zero, List.getElem_cons_succ, List.setIfInBounds_toArray, List.set_cons_zero, List.set_cons_succ]
              refine wpAnyH_done (by kernel_rfl) ?_ _
              obtain ⟨w10, hw10⟩ : ∃ w10, w10 = w9.setCell ⟨g, 2, none⟩ (.slice A9 N9 c9) := ⟨_, rfl⟩
              rw [← hw10]
              have HR10 := Aside0.mk (show w10.heap[g]? = some (.cells #[.int .i64 o, .int .i64 n, .slice A9 N9 c9] 24 (0, 0)) by rw [hw10]; exact setCell_row3 _ HR9.out)
              have hN10 : Ng g w10 (.slice A9 N9 c9) L2 := by rw [hw10, HFT.out]; exact Ng.set HN9.out _ _
              have HB10 := Aside0.mk (show Below w.heap.size w w10 by rw [hw10]; exact HB9.out.setCell HG0.out _)
              have hr10 := Kd.N_reads' hN10
              have HBY3 := Aside0.mk (HBY2.out (HL.out (by trivial)) w10 A9 c9 N9 (by rw [HL9.out, ← HFT.out]) HB10.out hr10.2.2 hr10.2.1)
              clear hw10 hN10 hr10
              (try clear b0 b1 b2 g0 g1 g2 q0 q1 q2 q3 q4 q5 q6 q7)
              obtain ⟨b0, b1, b2, g0, g1, g2⟩ := cells3 HR10.out
              go_wp2_with (first | (go_at_call 13; (with_reducible refine Calls.mono HBY3.out ?_); rintro e w11 ⟨⟨A11, c11, rfl⟩, h⟩; have H11 := Aside0.mk (HB10.out.trans (h.mono HB10.out.size)); clear h) | (go_at_call 25; (with_reducible refine Calls.mono (HWK.out _ H11.out) ?_); rintro e w12 ⟨rfl, h⟩; have H12 := Aside0.mk (H11.out.trans (h.mono H11.out.size)); clear h))
              go_ret
              exact ⟨rfl, H12.out⟩
            · skip
              go_simp
              go_at_call 26
              (with_reducible refine Calls.mono (HPL.out _ ?_) ?_)
              · (first | exact Below.refl _ _ | exact (Below.refl _ _).drew)
              rintro e w1 ⟨⟨At, ct, Ab, cb, rfl, hTo, hBo⟩, h⟩
              have hw : Below wy.heap.size wy w1 := (by first | exact h | exact ((Below.refl _ _).drew).trans h)
              have HW1 := Aside0.mk hw; have HTo := Aside0.mk hTo; have HBo := Aside0.mk hBo
              have HB1 := Aside0.mk (HB2.out.trans (hw.mono HB2.out.size))
              have hrow1 := row_on hw HR.out
              have k2 := (cells3 hrow1).2.2.1; have k2a := fun o => (cells3 (row_on ((Below.refl w1.heap.size w1).alloc (Nat.le_refl _) o) hrow1)).2.2.1
              clear h hw hTo hBo hrow1
              go_wp2_with (fail)
              refine hK.out _ _ ?_ (fun hHeld2 => ?_)
              · first | (with_reducible exact HS.out _ HB2.out.drew) | (with_reducible exact HS.out _ HB1.out) | (with_reducible exact HS.out _ (HB1.out.alloc HB1.out.size _)) | (with_reducible exact HS.out _ HB9.out) | (with_reducible exact HS.out _ (HB9.out.setCell HG0.out _))
              clear hK K hHeld
              have hHeld := hHeld2
              clear hHeld2
              try simp only [Act.put, List.getElem_toArray, List.getElem_cons_zero, List.getElem_cons_succ, List.setIfInBounds_toArray, List.set_cons_zero, List.set_cons_succ]
              refine wpAnyH_ready (rs := [1, 7]) (by kernel_rfl) (by simp) ?_
              refine (AllReadyH.cons (o := _) (by simp only [List.getElem?_toArray, List.getElem?_cons_zero, List.getElem?_cons_succ]; rfl) (fun K hK => ?_) (AllReadyH.cons (o := _) (by simp only [List.getElem?_toArray, List.getElem?_cons_zero, List.getElem?_cons_succ]; rfl) (fun K hK => ?_) AllReadyH.nil))
              · skip
                go_simp
                refine hK.out _ _ ?_ (fun hHeld2 => ?_)
                · first | (with_reducible exact HS.out _ HB2.out.drew) | (with_reducible exact HS.out _ HB1.out) | (with_reducible exact HS.out _ (HB1.out.alloc HB1.out.size _)) | (with_reducible exact HS.out _ HB9.out) | (with_reducible exact HS.out _ (HB9.out.setCell HG0.out _))
                clear hK K hHeld
                have hHeld := hHeld2
                clear hHeld2
                try simp only [Act.put, List.getElem_toArray, List.getElem_cons_zero, List.getElem_cons_succ, List.setIfInBounds_toArray, List.set_cons_zero, List.set_cons_succ]
                refine wpAnyH_ready (rs := [7]) (by kernel_rfl) (by simp) ?_
                refine (AllReadyH.cons (o := _) (by simp only [List.getElem?_toArray, List.getElem?_cons_zero, List.getElem?_cons_succ]; rfl) (fun K hK => ?_) AllReadyH.nil)
                go_simp
                refine hK.out _ _ ?_ (fun hHeld2 => ?_)
                · first | (with_reducible exact HS.out _ HB2.out.drew) | (with_reducible exact HS.out _ HB1.out) | (with_reducible exact HS.out _ (HB1.out.alloc HB1.out.size _)) | (with_reducible exact HS.out _ HB9.out) | (with_reducible exact HS.out _ (HB9.out.setCell HG0.out _))
                clear hK K hHeld
                have hHeld := hHeld2
                clear hHeld2
                try simp only [Act.put, List.getElem_toArray, List.getElem_cons_zero, List.getElem_cons_succ, List.setIfInBounds_toArray, List.set_cons_zero, List.set_cons_succ]
                refine wpAnyH_ready (rs := [8]) (by kernel_rfl) (by simp) ?_
                refine (AllReadyH.cons (o := _) (by simp only [List.getElem?_toArray, List.getElem?_cons_zero, List.getElem?_cons_succ]; rfl) (fun K hK => ?_) AllReadyH.nil)
                refine Kd.N_append_step kMail (w0 := wy) (g + 1) (by rfl) (.tmp 99) (.tmp 105) 22 46 (.agg #[.bool false, .string ⟨#[]⟩, .string ⟨#[]⟩, .slice none 0 0, .slice none 0 0, .bool false, .string ⟨#[]⟩, .int .i64 0]) 120 (by rfl) Tryz.underlying22 infoMail rfl (by decide) (by omega) (.slice A3 T c3) ((l.take T).map B.plain) (B.plain m) (mcs (B.plain m) At ct Ab cb) (fun k => g < k) (fun k => wy.heap.size ≤ k) (by rfl) (by rfl) (mail_FK (m := B.plain m) (kMail_mkM (m := B.plain m) HTo.out HBo.out)) (fun k hk => ⟨Nat.lt_of_lt_of_le (Array.getElem?_eq_some_iff.1 HR.out).1 hk, fun e => absurd (Kd.N_lt HN2.out k e.symm) (by omega)⟩) (fun k hk => Nat.lt_of_lt_of_le (Array.getElem?_eq_some_iff.1 (row_on HW1.out HR.out)).1 hk) (Kd.N_below HN2.out HW1.out) (HW1.out.mono (Array.getElem?_eq_some_iff.1 HR.out).1) (Array.getElem?_eq_some_iff.1 (row_on HW1.out HR.out)).1 (by have := HNL.out; omega) ?_
                intro v9 w9 hN9 hB9 hg9 _
                obtain ⟨A9, c9, e9⟩ := Kd.N_slice hN9
                obtain ⟨N9, hN9l⟩ : ∃ N, N = (((l.take T).map B.plain) ++ [B.plain m]).length := ⟨_, rfl⟩
                rw [← hN9l] at e9; subst e9
                have HN9 := Aside0.mk hN9; have HB9 := Aside0.mk (HB2.out.trans (hB9.mono (Nat.le_succ_of_le HG0.out))); have HL9 := Aside0.mk hN9l; have hr9 := (hB9.block g (Nat.lt_succ_self g)).trans HR.out; have HR9 := Aside0.mk hr9; have fr9 := (cells3 hr9).2.2.2.2.2; have k9 := (cells3 hr9).2.2.1; clear hN9 hB9 hg9 hN9l hr9
                refine hK.out _ _ ?_ (fun hHeld2 => ?_)
                · first | (with_reducible exact HS.out _ HB2.out.drew) | (with_reducible exact HS.out _ HB1.out) | (with_reducible exact HS.out _ (HB1.out.alloc HB1.out.size _)) | (with_reducible exact HS.out _ HB9.out) | (with_reducible exact HS.out _ (HB9.out.setCell HG0.out _))
                clear hK K hHeld
                have hHeld := hHeld2
                clear hHeld2
                try simp only [Act.put, List.getElem_toArray, List.getElem_cons_zero, List.getElem_cons_succ, List.setIfInBounds_toArray, List.set_cons_zero, List.set_cons_succ]
                refine wpAnyH_take (i := 9) (oi := _) (v := ?_) rfl (by kernel_rfl) (by kernel_rfl) (by kernel_rfl) (fun _ _ _ h => h) (Or.inl ⟨by rfl, ?_⟩) (by assumption) ?_
                case refine_2 => (intro w hSw; (try dsimp only [List.getElem_toArray, List.getElem_cons_zero, List.getElem_cons_succ] at hSw ⊢); go_simp; (try with_reducible rfl))
                try simp only [Act.put, List.getElem_toArray, List.getElem_cons_zero, List.getElem_cons_succ, List.setIfInBounds_toArray, List.set_cons_zero, List.set_cons_succ]
                refine wpAnyH_ready (rs := [10]) (by kernel_rfl) (by simp) ?_
                refine (AllReadyH.cons (o := _) (by simp only [List.getElem?_toArray, List.getElem?_cons_zero, List.getElem?_cons_succ]; rfl) (fun K hK => ?_) AllReadyH.nil)
                go_simp
                refine hK.out _ _ ?_ (fun hHeld2 => ?_)
                · first | (with_reducible exact HS.out _ HB2.out.drew) | (with_reducible exact HS.out _ HB1.out) | (with_reducible exact HS.out _ (HB1.out.alloc HB1.out.size _)) | (with_reducible exact HS.out _ HB9.out) | (with_reducible exact HS.out _ (HB9.out.setCell HG0.out _))
                clear hK K hHeld
                have hHeld := hHeld2
                clear hHeld2
                try simp only [Act.put, List.getElem_toArray, List.getElem_cons_zero, List.getElem_cons_succ, List.setIfInBounds_toArray, List.set_cons_zero, List.set_cons_succ]
                refine wpAnyH_done (by kernel_rfl) ?_ _
                obtain ⟨w10, hw10⟩ : ∃ w10, w10 = w9.setCell ⟨g, 2, none⟩ (.slice A9 N9 c9) := ⟨_, rfl⟩
                rw [← hw10]
                have HR10 := Aside0.mk (show w10.heap[g]? = some (.cells #[.int .i64 o, .int .i64 n, .slice A9 N9 c9] 24 (0, 0)) by rw [hw10]; exact setCell_row3 _ HR9.out)
                have hN10 : Ng g w10 (.slice A9 N9 c9) L2 := by rw [hw10, HFT.out]; exact Ng.set HN9.out _ _
                have HB10 := Aside0.mk (show Below w.heap.size w w10 by rw [hw10]; exact HB9.out.setCell HG0.out _)
                have hr10 := Kd.N_reads' hN10
                have HBY3 := Aside0.mk (HBY2.out (HL.out (by trivial)) w10 A9 c9 N9 (by rw [HL9.out, ← HFT.out]) HB10.out hr10.2.2 hr10.2.1)
                clear hw10 hN10 hr10
                (try clear b0 b1 b2 g0 g1 g2 q0 q1 q2 q3 q4 q5 q6 q7)
                obtain ⟨b0, b1, b2, g0, g1, g2⟩ := cells3 HR10.out
                go_wp2_with (first | (go_at_call 13; (with_reducible refine Calls.mono HBY3.out ?_); rintro e w11 ⟨⟨A11, c11, rfl⟩, h⟩; have H11 := Aside0.mk (HB10.out.trans (h.mono HB10.out.size)); clear h) | (go_at_call 25; (with_reducible refine Calls.mono (HWK.out _ H11.out) ?_); rintro e w12 ⟨rfl, h⟩; have H12 := Aside0.mk (H11.out.trans (h.mono H11.out.size)); clear h))
                go_ret
                exact ⟨rfl, H12.out⟩
              · skip
                go_simp
                refine hK.out _ _ ?_ (fun hHeld2 => ?_)
                · first | (with_reducible exact HS.out _ HB2.out.drew) | (with_reducible exact HS.out _ HB1.out) | (with_reducible exact HS.out _ (HB1.out.alloc HB1.out.size _)) | (with_reducible exact HS.out _ HB9.out) | (with_reducible exact HS.out _ (HB9.out.setCell HG0.out _))
                clear hK K hHeld
                have hHeld := hHeld2
                clear hHeld2
                try simp only [Act.put, List.getElem_toArray, List.getElem_cons_zero, List.getElem_cons_succ, List.setIfInBounds_toArray, List.set_cons_zero, List.set_cons_succ]
                refine wpAnyH_ready (rs := [1]) (by kernel_rfl) (by simp) ?_
                refine (AllReadyH.cons (o := _) (by simp only [List.getElem?_toArray, List.getElem?_cons_zero, List.getElem?_cons_succ]; rfl) (fun K hK => ?_) AllReadyH.nil)
                go_simp
                refine hK.out _ _ ?_ (fun hHeld2 => ?_)
                · first | (with_reducible exact HS.out _ HB2.out.drew) | (with_reducible exact HS.out _ HB1.out) | (with_reducible exact HS.out _ (HB1.out.alloc HB1.out.size _)) | (with_reducible exact HS.out _ HB9.out) | (with_reducible exact HS.out _ (HB9.out.setCell HG0.out _))
                clear hK K hHeld
                have hHeld := hHeld2
                clear hHeld2
                try simp only [Act.put, List.getElem_toArray, List.getElem_cons_zero, List.getElem_cons_succ, List.setIfInBounds_toArray, List.set_cons_zero, List.set_cons_succ]
                refine wpAnyH_ready (rs := [8]) (by kernel_rfl) (by simp) ?_
                refine (AllReadyH.cons (o := _) (by simp only [List.getElem?_toArray, List.getElem?_cons_zero, List.getElem?_cons_succ]; rfl) (fun K hK => ?_) AllReadyH.nil)
                refine Kd.N_append_step kMail (w0 := wy) (g + 1) (by rfl) (.tmp 99) (.tmp 105) 22 46 (.agg #[.bool false, .string ⟨#[]⟩, .string ⟨#[]⟩, .slice none 0 0, .slice none 0 0, .bool false, .string ⟨#[]⟩, .int .i64 0]) 120 (by rfl) Tryz.underlying22 infoMail rfl (by decide) (by omega) (.slice A3 T c3) ((l.take T).map B.plain) (B.plain m) (mcs (B.plain m) At ct Ab cb) (fun k => g < k) (fun k => wy.heap.size ≤ k) (by rfl) (by rfl) (mail_FK (m := B.plain m) (kMail_mkM (m := B.plain m) HTo.out HBo.out)) (fun k hk => ⟨Nat.lt_of_lt_of_le (Array.getElem?_eq_some_iff.1 HR.out).1 hk, fun e => absurd (Kd.N_lt HN2.out k e.symm) (by omega)⟩) (fun k hk => Nat.lt_of_lt_of_le (Array.getElem?_eq_some_iff.1 (row_on HW1.out HR.out)).1 hk) (Kd.N_below HN2.out HW1.out) (HW1.out.mono (Array.getElem?_eq_some_iff.1 HR.out).1) (Array.getElem?_eq_some_iff.1 (row_on HW1.out HR.out)).1 (by have := HNL.out; omega) ?_
                intro v9 w9 hN9 hB9 hg9 _
                obtain ⟨A9, c9, e9⟩ := Kd.N_slice hN9
                obtain ⟨N9, hN9l⟩ : ∃ N, N = (((l.take T).map B.plain) ++ [B.plain m]).length := ⟨_, rfl⟩
                rw [← hN9l] at e9; subst e9
                have HN9 := Aside0.mk hN9; have HB9 := Aside0.mk (HB2.out.trans (hB9.mono (Nat.le_succ_of_le HG0.out))); have HL9 := Aside0.mk hN9l; have hr9 := (hB9.block g (Nat.lt_succ_self g)).trans HR.out; have HR9 := Aside0.mk hr9; have fr9 := (cells3 hr9).2.2.2.2.2; have k9 := (cells3 hr9).2.2.1; clear hN9 hB9 hg9 hN9l hr9
                refine hK.out _ _ ?_ (fun hHeld2 => ?_)
                · first | (with_reducible exact HS.out _ HB2.out.drew) | (with_reducible exact HS.out _ HB1.out) | (with_reducible exact HS.out _ (HB1.out.alloc HB1.out.size _)) | (with_reducible exact HS.out _ HB9.out) | (with_reducible exact HS.out _ (HB9.out.setCell HG0.out _))
                clear hK K hHeld
                have hHeld := hHeld2
                clear hHeld2
                try simp only [Act.put, List.getElem_toArray, List.getElem_cons_zero, List.getElem_cons_succ, List.setIfInBounds_toArray, List.set_cons_zero, List.set_cons_succ]
                refine wpAnyH_take (i := 9) (oi := _) (v := ?_) rfl (by kernel_rfl) (by kernel_rfl) (by kernel_rfl) (fun _ _ _ h => h) (Or.inl ⟨by rfl, ?_⟩) (by assumption) ?_
                case refine_2 => (intro w hSw; (try dsimp only [List.getElem_toArray, List.getElem_cons_zero, List.getElem_cons_succ] at hSw ⊢); go_simp; (try with_reducible rfl))
                try simp only [Act.put, List.getElem_toArray, List.getElem_cons_zero, List.getElem_cons_succ, List.setIfInBounds_toArray, List.set_cons_zero, List.set_cons_succ]
                refine wpAnyH_ready (rs := [10]) (by kernel_rfl) (by simp) ?_
                refine (AllReadyH.cons (o := _) (by simp only [List.getElem?_toArray, List.getElem?_cons_zero, List.getElem?_cons_succ]; rfl) (fun K hK => ?_) AllReadyH.nil)
                go_simp
                refine hK.out _ _ ?_ (fun hHeld2 => ?_)
                · first | (with_reducible exact HS.out _ HB2.out.drew) | (with_reducible exact HS.out _ HB1.out) | (with_reducible exact HS.out _ (HB1.out.alloc HB1.out.size _)) | (with_reducible exact HS.out _ HB9.out) | (with_reducible exact HS.out _ (HB9.out.setCell HG0.out _))
                clear hK K hHeld
                have hHeld := hHeld2
                clear hHeld2
                try simp only [Act.put, List.getElem_toArray, List.getElem_cons_zero, List.getElem_cons_succ, List.setIfInBounds_toArray, List.set_cons_zero, List.set_cons_succ]
                refine wpAnyH_done (by kernel_rfl) ?_ _
                obtain ⟨w10, hw10⟩ : ∃ w10, w10 = w9.setCell ⟨g, 2, none⟩ (.slice A9 N9 c9) := ⟨_, rfl⟩
                rw [← hw10]
                have HR10 := Aside0.mk (show w10.heap[g]? = some (.cells #[.int .i64 o, .int .i64 n, .slice A9 N9 c9] 24 (0, 0)) by rw [hw10]; exact setCell_row3 _ HR9.out)
                have hN10 : Ng g w10 (.slice A9 N9 c9) L2 := by rw [hw10, HFT.out]; exact Ng.set HN9.out _ _
                have HB10 := Aside0.mk (show Below w.heap.size w w10 by rw [hw10]; exact HB9.out.setCell HG0.out _)
                have hr10 := Kd.N_reads' hN10
                have HBY3 := Aside0.mk (HBY2.out (HL.out (by trivial)) w10 A9 c9 N9 (by rw [HL9.out, ← HFT.out]) HB10.out hr10.2.2 hr10.2.1)
                clear hw10 hN10 hr10
                (try clear b0 b1 b2 g0 g1 g2 q0 q1 q2 q3 q4 q5 q6 q7)
                obtain ⟨b0, b1, b2, g0, g1, g2⟩ := cells3 HR10.out
                go_wp2_with (first | (go_at_call 13; (with_reducible refine Calls.mono HBY3.out ?_); rintro e w11 ⟨⟨A11, c11, rfl⟩, h⟩; have H11 := Aside0.mk (HB10.out.trans (h.mono HB10.out.size)); clear h) | (go_at_call 25; (with_reducible refine Calls.mono (HWK.out _ H11.out) ?_); rintro e w12 ⟨rfl, h⟩; have H12 := Aside0.mk (H11.out.trans (h.mono H11.out.size)); clear h))
                go_ret
                exact ⟨rfl, H12.out⟩
end Go.Proofs.YtpfmnkpmidjfjaaGreatDoor
