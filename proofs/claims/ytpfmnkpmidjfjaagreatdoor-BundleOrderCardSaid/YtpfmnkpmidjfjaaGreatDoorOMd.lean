/- Texts of this seat, one behind the other: the plain law, the walks. -/
import Derived.Test.YtpfmnkpmidjfjaaGreatDoorProg
import Derived.WalkKit
import Derived.WalkLawsBesides
import Derived.Outline
import Derived.LoopTactic
import Derived.Lib.Hide
import Derived.Deep.QuietTactic
import Derived.BigQuiet
import Derived.Deep.LoopGhost
import Derived.Deep.DeepCutAuto
import Derived.Deep.CutBlock
import Derived.Deep.RegionHeld3
import Derived.Deep.RegionWith
import Derived.Deep.WholeRow
import Derived.Laws.Rows
import Derived.Laws.Tables
import Derived.Laws.ResultCell
import Derived.StillTailTactics
import Derived.Deep.DeepMust
import Derived.IntWalk
import Derived.KernelRfl
import Derived.Test.YtpfmnkpmidjfjaaGreatDoorOXa
import Derived.RegionTactic
import Derived.Deep.MidRow
import Derived.Test.YtpfmnkpmidjfjaaGreatDoorOMa
import Derived.Test.YtpfmnkpmidjfjaaGreatDoorOMb
import Derived.Test.YtpfmnkpmidjfjaaGreatDoorOMc
/- BundleOrder, walked. -/
namespace Go.Proofs.YtpfmnkpmidjfjaaGreatDoor
open Go.RowKit Go.Lib
open Go.Proofs.YtpfmnkpmidjfjaaGreatDoorW.PrintWords
set_option linter.unusedVariables false
set_option linter.unusedSimpArgs false
theorem if_mid {c : Prop} [Decidable c] {a b : Prop} (hc : c) (ha : a) : if c then a else b := by rw [if_pos hc]; exact ha
theorem row3_all {w : World} {g t : Nat} {x0 x1 x2 a0 a1 a2 : Value} (h : w.heap[g]? = some (.cells #[x0, x1, x2] t (0, 0))) : (((w.setCell ⟨g, 0, none⟩ a0).setCell ⟨g, 1, none⟩ a1).setCell ⟨g, 2, none⟩ a2).heap[g]? = some (.cells #[a0, a1, a2] t (0, 0)) :=
  setCell_row _ g 2 _ _ _ a2 (setCell_row _ g 1 _ _ _ a1 (setCell_row _ g 0 _ _ _ a0 h))
theorem Nb.low {b b' : Nat} {w : World} {v : Value} {l : List B.Mail} (h : Nb b w v l) (hb : b' ≤ b) : Nb b' w v l := Kd.N_mono (Kd.N_lower h hb) (fun k hk => Nat.le_trans hb hk)
abbrev Ngb (b g : Nat) (w : World) (v : Value) (l : List B.Mail) : Prop := kMail.N 46 w b (fun k => b ≤ k ∧ k ≠ g) v l
theorem Nb.old {b : Nat} {w : World} {v : Value} {l : List B.Mail} (h : Nb b w v l) (o : Obj) : Ngb b w.heap.size (w.alloc o) v l := Kd.N_alloc (Kd.N_elderB h w.heap.size (Nat.le_refl _)) o
theorem Ngb.nb {b g : Nat} {w : World} {v : Value} {l : List B.Mail} (h : Ngb b g w v l) : Nb b w v l := Kd.N_mono h (fun k hk => hk.1)
theorem Ngb.far3 {b g : Nat} {w : World} {v : Value} {l : List B.Mail} (h : Ngb b g w v l) (x y z : Value) : Nb b (((w.setCell ⟨g, 0, none⟩ x).setCell ⟨g, 1, none⟩ y).setCell ⟨g, 2, none⟩ z) v l :=
  Ngb.nb (Kd.N_far (p := ⟨g, 2, none⟩) (Kd.N_far (p := ⟨g, 1, none⟩) (Kd.N_far (p := ⟨g, 0, none⟩) h (fun k hk => hk.2) x) (fun k hk => hk.2) y) (fun k hk => hk.2) z)
theorem Nb.far3 {b g : Nat} {w : World} {v : Value} {l : List B.Mail} (h : Nb b w v l) (hg : g < b) (x y z : Value) : Nb b (((w.setCell ⟨g, 0, none⟩ x).setCell ⟨g, 1, none⟩ y).setCell ⟨g, 2, none⟩ z) v l :=
  Kd.N_far (p := ⟨g, 2, none⟩) (Kd.N_far (p := ⟨g, 1, none⟩) (Kd.N_far (p := ⟨g, 0, none⟩) h (fun k hk => by show k ≠ g; omega) x) (fun k hk => by show k ≠ g; omega) y) (fun k hk => by show k ≠ g; omega) z
theorem Nb.form {b n c : Nat} {A : Option Addr} {w : World} {l : List B.Mail} (h : Nb b w (.slice A n c) l) (hp : 0 < l.length) : ∃ g, A = some ⟨g, 0, none⟩ := by
  obtain ⟨g, cap, e, _⟩ := Kd.N_form h hp
  injection e with e
  exact ⟨g, e⟩
theorem fit_swap {b : B.Bundle} (hf : B.FitB b) (h2 : 2 ≤ b.mails.length) (m0 m1 : B.Mail) (hm0 : m0 = b.mails.getD 0 B.noMail) (hm1 : m1 = b.mails.getD 1 B.noMail) : B.FitB ⟨b.origin, b.number, (b.mails.set 0 m1).set 1 m0⟩ ∧ B.FitB ⟨b.origin, b.number, b.mails.drop 1⟩ := by
  obtain ⟨a0, a1, ms, e, e0, e1, e2, e3⟩ := swap_list b.mails h2
  obtain rfl : m0 = a0 := hm0.trans e0.symm
  obtain rfl : m1 = a1 := hm1.trans e1.symm
  have hl := hf.n
  have hm := hf.ms
  rw [e] at hl hm
  have hl' : ms.length + 1 + 1 ≤ 1000 := hl
  rw [e2, e3]
  refine ⟨⟨hl', fun m h => hm m ?_⟩, ⟨by show ms.length + 1 ≤ 1000; omega, fun m h => hm m (List.mem_cons_of_mem _ h)⟩⟩
  rcases List.mem_cons.1 h with h | h
  · rw [h]; exact List.mem_cons_of_mem _ List.mem_cons_self
  · rcases List.mem_cons.1 h with h | h
    · rw [h]; exact List.mem_cons_self
    · exact List.mem_cons_of_mem _ (List.mem_cons_of_mem _ h)
theorem wrap_sub1 (n : Int) (h0 : 1 ≤ n) (h1 : n ≤ 1000) : IntKind.i64.wrap (n - 1) = n - 1 := IntWalk.i64_in _ (by omega)
theorem s14 {W : World} {gp g gq gb : Nat} {o n : Int} {Ap C Aq : Option Addr} {cp cap cq c k kq : Nat} {ad : Addr} {m0 m1 : B.Mail} {A1 A2 A3 A4 : Option Addr} {c1 c2 c3 c4 : Nat}
    (hP : W.heap[gp]? = some (.cells #[.int .i64 o, .int .i64 n, .slice Ap k cp] 24 (0, 0))) (hC : W.heap[g]? = some (.cells #[.int .i64 o, .int .i64 n, .slice C k cap] 24 (0, 0)))
    (hQ : W.heap[gq]? = some (.cells #[.int .i64 o, .int .i64 n, .slice Aq kq cq] 24 (0, 0))) (hB : W.heap[gb]? = some (.cells #[.int .i64 o, .int .i64 n, .slice (some ad) k c] 24 (0, 0)))
    (h0 : Mcells W (ad.add (0 * 8)) m0 A1 c1 A2 c2) (h1 : Mcells W (ad.add (1 * 8)) m1 A3 c3 A4 c4) :
    W.cell? ⟨gp, 0, none⟩ = some (.int .i64 o) ∧ W.cell? ⟨gp, 1, none⟩ = some (.int .i64 n) ∧ W.cell? ⟨gp, 2, none⟩ = some (.slice Ap k cp) ∧ W.cell? ⟨g, 0, none⟩ = some (.int .i64 o) ∧ W.cell? ⟨g, 1, none⟩ = some (.int .i64 n) ∧ W.cell? ⟨g, 2, none⟩ = some (.slice C k cap) ∧ W.cell? ⟨gq, 2, none⟩ = some (.slice Aq kq cq) ∧ W.cell? ⟨gb, 2, none⟩ = some (.slice (some ad) k c) ∧ W.cell? ad = some (.bool m0.frm.null) ∧ W.cell? ⟨ad.block, ad.off + 1, none⟩ = some (.string (str m0.frm.loc)) ∧ W.cell? ⟨ad.block, ad.off + 2, none⟩ = some (.string (str m0.frm.dom)) ∧ W.cell? ⟨ad.block, ad.off + 3, none⟩ = some (.slice A1 m0.to.length c1) ∧ W.cell? ⟨ad.block, ad.off + 4, none⟩ = some (.slice A2 m0.body.length c2) ∧ W.cell? ⟨ad.block, ad.off + 5, none⟩ = some (.bool m0.quiet) ∧ W.cell? ⟨ad.block, ad.off + 6, none⟩ = some (.string (str m0.helo)) ∧ W.cell? ⟨ad.block, ad.off + 7, none⟩ = some (.int .i64 m0.tm) ∧ W.cell? ⟨ad.block, ad.off + 8, none⟩ = some (.bool m1.frm.null) ∧ W.cell? ⟨ad.block, ad.off + 9, none⟩ = some (.string (str m1.frm.loc)) ∧ W.cell? ⟨ad.block, ad.off + 10, none⟩ = some (.string (str m1.frm.dom)) ∧ W.cell? ⟨ad.block, ad.off + 11, none⟩ = some (.slice A3 m1.to.length c3) ∧ W.cell? ⟨ad.block, ad.off + 12, none⟩ = some (.slice A4 m1.body.length c4) ∧ W.cell? ⟨ad.block, ad.off + 13, none⟩ = some (.bool m1.quiet) ∧ W.cell? ⟨ad.block, ad.off + 14, none⟩ = some (.string (str m1.helo)) ∧ W.cell? ⟨ad.block, ad.off + 15, none⟩ = some (.int .i64 m1.tm) := by
  obtain ⟨p0, p1, p2, _⟩ := cells3 hP
  obtain ⟨e0, e1, e2, _⟩ := cells3 hC
  obtain ⟨_, _, q2, _⟩ := cells3 hQ
  obtain ⟨_, _, b2, _⟩ := cells3 hB
  obtain ⟨x0, x1, x2, x3, x4, x5, x6, x7⟩ := h0
  obtain ⟨y0, y1, y2, y3, y4, y5, y6, y7⟩ := h1
  exact ⟨p0, p1, p2, e0, e1, e2, q2, b2, x0, x1, x2, x3, x4, x5, x6, x7, y0, y1, y2, y3, y4, y5, y6, y7⟩
/-- A bundle without its first mail, in memory. -/
theorem bn_tail {W : World} {b : B.Bundle} {A : Option Addr} {c : Nat} {TL : List B.Mail} (h : Bn W b A c) (h2 : 2 ≤ b.mails.length) (ht : TL = b.mails.drop 1) : Bn W ⟨b.origin, b.number, TL⟩ (if c = 1 then A else Option.map (fun x => { block := x.block, off := x.off + 8 }) A) (c - 1) := by
  subst ht
  have h1 := Kd.C_drop (c := c) (m := 1) h.rd (by omega) h.cap
  refine ⟨?_, h1⟩
  show (b.mails.drop 1).length ≤ c - 1
  rw [List.length_drop]
  have := h.cap
  omega
set_option maxRecDepth 100000 in
set_option maxHeartbeats 8000000 in
theorem order_walk (b : B.Bundle) (A : Option Addr) (c : Nat) (w : World) (hb : Bn w b A c) (hr : B.ReachB b) (hv : Vars w) :
    Calls Tryz.prog 9 #[.agg #[.int .i64 b.origin, .int .i64 b.number, .slice A b.mails.length c]] w fun e w' => e = .returned (.bool true) ∧ Below w.heap.size w w' := by
  have HB := Aside0.mk hb
  have HV := Aside0.mk hv
  have hhv : ∀ W, Below w.heap.size w W → Calls Tryz.prog 10 #[.slice A b.mails.length c] W fun e w' => (∃ r : Bool, e = .returned (.bool r) ∧ (r = false → b.mails.length ≤ 20 ∧ ∀ m ∈ b.mails, B.Light 20000 m)) ∧ Below W.heap.size W w' := fun W hW => heavy_any b.mails A c W (hb.on hW).rd hr.n hr.ms
  have HHV := Aside0.mk hhv
  have hwk : ∀ W, Below w.heap.size w W → Calls Tryz.prog 25 #[] W fun e w' => e = .returned (.bool true) ∧ Below W.heap.size W w' := fun W hW => wakes_any W (HV.out.go hW)
  have HWK := Aside0.mk hwk
  obtain ⟨X1, X2, hX⟩ : ∃ X1 X2, B.bytes b = (X1, X2) := ⟨_, _, rfl⟩
  have hxl : X1.length ≤ 4096 := by have := B.bytes_len b; rw [hX] at this; exact this
  have hxlI : (X1.length : Int) ≤ 4096 := by omega
  have hby : B.FitB b → ∀ W, Below w.heap.size w W → Calls Tryz.prog 13 #[.agg #[.int .i64 b.origin, .int .i64 b.number, .slice A b.mails.length c]] W fun e w' => (∃ A1 c1, e = .returned (.tuple #[.slice A1 X1.length c1, .int .i64 X2]) ∧ Fr W.heap.size w' A1 c1 X1) ∧ Below W.heap.size W w' := fun hf W hW => by
    have h := bytes_any b A c W (HB.out.on hW) hf (HV.out.go hW)
    rw [hX] at h
    exact h
  have hcode := B.bytes_code b
  rw [hX] at hcode
  have HCODE := Aside0.mk hcode
  have HBY := Aside0.mk hby
  have HX := Aside0.mk hX
  obtain ⟨w0, hw0⟩ : ∃ w0, w0 = w.alloc (.cells #[.int .i64 b.origin, .int .i64 b.number, .slice A b.mails.length c] 24) := ⟨_, rfl⟩
  have HW0B := Aside0.mk (show Below w.heap.size w w0 by rw [hw0]; exact (Below.refl _ _).alloc (Nat.le_refl _) _)
  have HR := Aside0.mk (show w0.heap[w.heap.size]? = some (.cells #[.int .i64 b.origin, .int .i64 b.number, .slice A b.mails.length c] 24 (0, 0)) by rw [hw0]; exact heap_alloc_new _ _)
  have HW0 := Aside0.mk hw0
  have HW := Aside0.mk (Below.refl w0.heap.size w0)
  clear hb hv hr hhv hwk hX hby hcode hw0
  by_cases hA : X2 = 0 ∧ 2 ≤ b.mails.length
  · obtain ⟨rfl, h2⟩ := hA
    obtain ⟨m0, hm0⟩ : ∃ m0, m0 = b.mails.getD 0 B.noMail := ⟨_, rfl⟩
    obtain ⟨m1, hm1⟩ : ∃ m1, m1 = b.mails.getD 1 B.noMail := ⟨_, rfl⟩
    have hpl := order_plain h2 m0 m1 hm0 hm1 (by rw [HX.out])
    obtain ⟨CL, hCL⟩ : ∃ CL, CL = (b.mails.set 0 m1).set 1 m0 := ⟨_, rfl⟩
    have hCLl : CL.length = b.mails.length := by rw [hCL, List.length_set, List.length_set]
    obtain ⟨TL, hTL⟩ : ∃ TL, TL = b.mails.drop 1 := ⟨_, rfl⟩
    obtain ⟨Y1, Y2, hY⟩ : ∃ Y1 Y2, B.bytes ⟨b.origin, b.number, CL⟩ = (Y1, Y2) := ⟨_, _, rfl⟩
    obtain ⟨Z1, Z2, hZ⟩ : ∃ Z1 Z2, B.bytes ⟨b.origin, b.number, TL⟩ = (Z1, Z2) := ⟨_, _, rfl⟩
    rw [← hCL, ← hTL, hY, hZ, HX.out] at hpl
    have HPL := Aside0.mk hpl
    have HM0 := Aside0.mk hm0
    have HM1 := Aside0.mk hm1
    have HCL := Aside0.mk hCL
    have HTL := Aside0.mk hTL
    have HCLl := Aside0.mk hCLl
    have HY := Aside0.mk hY
    have HZ := Aside0.mk hZ
    clear hpl hm0 hm1 hCL hTL hCLl hY hZ
    have h2I : (2 : Int) ≤ (b.mails.length : Int) := by omega
    have h1I : (1 : Int) ≤ (b.mails.length : Int) := by omega
    have h1s : (1 : Int) < (b.mails.length : Int) := by omega
    have h0s : (0 : Int) < (b.mails.length : Int) := by omega
    have h0n : 0 < b.mails.length := by omega
    have h1n : 1 < b.mails.length := by omega
    have t1 : decide ((b.mails.length : Int) < 2) = false := by simp; omega
    have t2 : decide (b.mails.length < 2) = false := by simp; omega
    have H2 := Aside0.mk h2
    go_enter Tryz.func9, Tryz.ntmps9
    go_upto_region 1 with (fail)
    rw [← HW0.out]
    obtain ⟨b0, b1, b2, g0, g1, g2⟩ := cells3 HR.out
    go_wp2_with (first | (go_at_call 10; (with_reducible refine Calls.mono (HHV.out _ (HW0B.out.trans (HW.out.mono HW0B.out.size))) ?_); rintro e wq ⟨⟨r, rfl, hr⟩, h⟩; have hwN := (by first | exact HW.out.trans (h.mono HW.out.size) | exact (HW.out.alloc HW.out.size _).trans (h.mono (HW.out.alloc HW.out.size _).size) : Below w0.heap.size w0 wq); have HL := Aside0.mk hr; clear hr; clear HW h; have HW := Aside0.mk hwN; (try clear b0 b1 b2 g0 g1 g2 bne bd0 bd1 bd2); obtain ⟨b0, b1, b2, g0, g1, g2⟩ := cells3 (row_on hwN HR.out); have bne := Nat.ne_of_lt (Array.getElem?_eq_some_iff.1 (row_on hwN HR.out)).1; have bd0 := fun o => (cells3 (row_on (hwN.alloc hwN.size o) HR.out)).1; have bd1 := fun o => (cells3 (row_on (hwN.alloc hwN.size o) HR.out)).2.1; have bd2 := fun o => (cells3 (row_on (hwN.alloc hwN.size o) HR.out)).2.2.1; clear hwN; cases r) | (go_at_call 13; (with_reducible refine Calls.mono (HBY.out (heavy_fit (HL.out (by trivial))) _ (HW0B.out.trans ((by first | exact HW.out | exact HW.out.alloc HW.out.size _ : Below w0.heap.size w0 _).mono HW0B.out.size))) ?_); rintro e wq ⟨⟨A5, c5, rfl, hfr⟩, h⟩; have hwN := (by first | exact HW.out.trans (h.mono HW.out.size) | exact (HW.out.alloc HW.out.size _).trans (h.mono (HW.out.alloc HW.out.size _).size) : Below w0.heap.size w0 wq); have HF := Aside0.mk hfr.bt; clear hfr; clear HW h; have HW := Aside0.mk hwN; (try clear b0 b1 b2 g0 g1 g2 bne bd0 bd1 bd2); obtain ⟨b0, b1, b2, g0, g1, g2⟩ := cells3 (row_on hwN HR.out); have bne := Nat.ne_of_lt (Array.getElem?_eq_some_iff.1 (row_on hwN HR.out)).1; have bd0 := fun o => (cells3 (row_on (hwN.alloc hwN.size o) HR.out)).1; have bd1 := fun o => (cells3 (row_on (hwN.alloc hwN.size o) HR.out)).2.1; have bd2 := fun o => (cells3 (row_on (hwN.alloc hwN.size o) HR.out)).2.2.1; clear hwN))
    any_goals (go_ret; exact ⟨rfl, HW0B.out.trans (HW.out.mono HW0B.out.size)⟩)
    obtain ⟨wa, rfl⟩ : ∃ wa : World, wa = wq := ⟨_, rfl⟩
    have HWa := Aside0.mk (HW0B.out.trans (HW.out.mono HW0B.out.size))
    have HRa := Aside0.mk (row_on HW.out HR.out)
    have HFIT := Aside0.mk (heavy_fit (HL.out (by trivial)))
    clear HW HR
    go_cut [5] (fun v5 wc => ∃ g h cap : Nat, v5 = .pointer (some ⟨g, 0, none⟩) ∧ Aside0 (wa.heap.size ≤ g) ∧ Aside0 (wc.heap[g]? = some (.cells #[.int .i64 b.origin, .int .i64 b.number, .slice (some ⟨h, 0, none⟩) b.mails.length cap] 24 (0, 0))) ∧ Aside0 (Nb wa.heap.size wc (.slice (some ⟨h, 0, none⟩) b.mails.length cap) b.mails) ∧ Aside0 (Below wa.heap.size wa wc))
    case first =>
      have HS := Aside0.mk (fun W (hW : Below wa.heap.size wa W) => let ⟨x0, x1, x2, _⟩ := cells3 (row_on hW HRa.out); And.intro x0 (And.intro x1 x2))
      have HTM := Aside0.mk (fun W (hW : Below wa.heap.size wa W) => twinMails_any b.mails A c W ((HB.out.on (HWa.out.trans (hW.mono HWa.out.size))).rd) HFIT.out.n HFIT.out.ms)
      refine wp_region_held_drew (S := (fun w' => w'.cell? ⟨w.heap.size, 0, none⟩ = some (.int .i64 b.origin) ∧ w'.cell? ⟨w.heap.size, 1, none⟩ = some (.int .i64 b.number) ∧ w'.cell? ⟨w.heap.size, 2, none⟩ = some (.slice A b.mails.length c))) (by kernel_rfl) ?_ (fun hHeld => ?_)
      · first | (with_reducible exact HS.out _ (Below.refl _ _).drew) | (with_reducible exact HS.out _ HW1.out) | (with_reducible exact HS.out _ HW2.out) | (with_reducible exact HS.out _ ((((HW2.out).setCell HGE.out _).setCell HGE.out _).setCell HGE.out _)) | (with_reducible exact HS.out _ ((((HW1.out).setCell HGE.out _).setCell HGE.out _).setCell HGE.out _)) | (with_reducible exact HS.out _ (HW1.out.alloc HW1.out.size _)) | (with_reducible exact HS.out _ ((Below.refl wa.heap.size wa).alloc (Nat.le_refl _) _).drew)
      refine wpAnyH_take (i := 0) (oi := _) (v := ?_) rfl (by kernel_rfl) (by kernel_rfl) (by kernel_rfl) (fun _ _ _ h => h) (Or.inl ⟨by rfl, ?_⟩) (by assumption) ?_
      case refine_2 => (intro w hSw; (try dsimp only [List.getElem_toArray, List.getElem_cons_zero, List.getElem_cons_succ] at hSw ⊢); go_simp; (try with_reducible rfl))
      try simp only [Act.put, List.getElem_toArray, List.getElem_cons_zero, List.getElem_cons_succ, List.setIfInBounds_toArray, List.set_cons_zero, List.set_cons_succ]
      refine wpAnyH_take (i := 1) (oi := _) (v := ?_) rfl (by kernel_rfl) (by kernel_rfl) (by kernel_rfl) (fun _ _ _ h => h) (Or.inl ⟨by rfl, ?_⟩) (by assumption) ?_
      case refine_2 => (intro w hSw; (try dsimp only [List.getElem_toArray, List.getElem_cons_zero, List.getElem_cons_succ] at hSw ⊢); go_simp; (try with_reducible rfl))
      try simp only [Act.put, List.getElem_toArray, List.getElem_cons_zero, List.getElem_cons_succ, List.setIfInBounds_toArray, List.set_cons_zero, List.set_cons_succ]
      refine wpAnyH_take (i := 2) (oi := _) (v := ?_) rfl (by kernel_rfl) (by kernel_rfl) (by kernel_rfl) (fun _ _ _ h => h) (Or.inl ⟨by rfl, ?_⟩) (by assumption) ?_
      case refine_2 => (intro w hSw; (try dsimp only [List.getElem_toArray, List.getElem_cons_zero, List.getElem_cons_succ] at hSw ⊢); go_simp; (try with_reducible rfl))
      try simp only [Act.put, List.getElem_toArray, List.getElem_cons_zero, List.getElem_cons_succ, List.setIfInBounds_toArray, List.set_cons_zero, List.set_cons_succ]
      refine wpAnyH_take (i := 3) (oi := _) (v := ?_) rfl (by kernel_rfl) (by kernel_rfl) (by kernel_rfl) (fun _ _ _ h => h) (Or.inl ⟨by rfl, ?_⟩) (by assumption) ?_
      case refine_2 => (intro w hSw; (try dsimp only [List.getElem_toArray, List.getElem_cons_zero, List.getElem_cons_succ] at hSw ⊢); go_simp; (try with_reducible rfl))
      try simp only [Act.put, List.getElem_toArray, List.getElem_cons_zero, List.getElem_cons_succ, List.setIfInBounds_toArray, List.set_cons_zero, List.set_cons_succ]
      refine wpAnyH_take (i := 4) (oi := _) (v := ?_) rfl (by kernel_rfl) (by kernel_rfl) (by kernel_rfl) (fun _ _ _ h => h) (Or.inl ⟨by rfl, ?_⟩) (by assumption) ?_
      case refine_2 => (intro w hSw; (try dsimp only [List.getElem_toArray, List.getElem_cons_zero, List.getElem_cons_succ] at hSw ⊢); go_simp; (try with_reducible rfl))
      try simp only [Act.put, List.getElem_toArray, List.getElem_cons_zero, List.getElem_cons_succ, List.setIfInBounds_toArray, List.set_cons_zero, List.set_cons_succ]
      refine wpAnyH_take (i := 5) (oi := _) (v := ?_) rfl (by kernel_rfl) (by kernel_rfl) (by kernel_rfl) (fun _ _ _ h => h) (Or.inl ⟨by rfl, ?_⟩) (by assumption) ?_
      case refine_2 => (intro w hSw; (try dsimp only [List.getElem_toArray, List.getElem_cons_zero, List.getElem_cons_succ] at hSw ⊢); go_simp; (try with_reducible rfl))
      try simp only [Act.put, List.getElem_toArray, List.getElem_cons_zero, List.getElem_cons_succ, List.setIfInBounds_toArray, List.set_cons_zero, List.set_cons_succ]
      refine wpAnyH_ready (rs := [6, 8]) (by kernel_rfl) (by simp) ?_
      refine (AllReadyH.cons (o := _) (by simp only [List.getElem?_toArray, List.getElem?_cons_zero, List.getElem?_cons_succ]; rfl) (fun K hK => ?_) (AllReadyH.cons (o := _) (by simp only [List.getElem?_toArray, List.getElem?_cons_zero, List.getElem?_cons_succ]; rfl) (fun K hK => ?_) AllReadyH.nil))
      · skip
        go_simp
        go_at_call 11
        (with_reducible refine Calls.mono (HTM.out _ ?_) ?_)
        · exact (Below.refl _ _).drew
        rintro e w1 ⟨⟨A6, cap, rfl, hN1⟩, h⟩
        have HW1 := Aside0.mk ((Below.refl wa.heap.size wa).drew.trans (h.mono (Nat.le_refl _)))
        have HN1 := Aside0.mk hN1
        clear h hN1
        go_wp2_with (fail)
        refine hK.out _ _ ?_ (fun hHeld2 => ?_)
        · first | (with_reducible exact HS.out _ (Below.refl _ _).drew) | (with_reducible exact HS.out _ HW1.out) | (with_reducible exact HS.out _ HW2.out) | (with_reducible exact HS.out _ ((((HW2.out).setCell HGE.out _).setCell HGE.out _).setCell HGE.out _)) | (with_reducible exact HS.out _ ((((HW1.out).setCell HGE.out _).setCell HGE.out _).setCell HGE.out _)) | (with_reducible exact HS.out _ (HW1.out.alloc HW1.out.size _)) | (with_reducible exact HS.out _ ((Below.refl wa.heap.size wa).alloc (Nat.le_refl _) _).drew)
        clear hK K hHeld
        have hHeld := hHeld2
        clear hHeld2
        try simp only [Act.put, List.getElem_toArray, List.getElem_cons_zero, List.getElem_cons_succ, List.setIfInBounds_toArray, List.set_cons_zero, List.set_cons_succ]
        refine wpAnyH_take (i := 7) (oi := _) (v := ?_) rfl (by kernel_rfl) (by kernel_rfl) (by kernel_rfl) (fun _ _ _ h => h) (Or.inl ⟨by rfl, ?_⟩) (by assumption) ?_
        case refine_2 => (intro w hSw; (try dsimp only [List.getElem_toArray, List.getElem_cons_zero, List.getElem_cons_succ] at hSw ⊢); go_simp; (try with_reducible rfl))
        try simp only [Act.put, List.getElem_toArray, List.getElem_cons_zero, List.getElem_cons_succ, List.setIfInBounds_toArray, List.set_cons_zero, List.set_cons_succ]
        refine wpAnyH_ready (rs := [8]) (by kernel_rfl) (by simp) ?_
        refine (AllReadyH.cons (o := _) (by simp only [List.getElem?_toArray, List.getElem?_cons_zero, List.getElem?_cons_succ]; rfl) (fun K hK => ?_) AllReadyH.nil)
        go_simp
        refine hK.out _ _ ?_ (fun hHeld2 => ?_)
        · first | (with_reducible exact HS.out _ (Below.refl _ _).drew) | (with_reducible exact HS.out _ HW1.out) | (with_reducible exact HS.out _ HW2.out) | (with_reducible exact HS.out _ ((((HW2.out).setCell HGE.out _).setCell HGE.out _).setCell HGE.out _)) | (with_reducible exact HS.out _ ((((HW1.out).setCell HGE.out _).setCell HGE.out _).setCell HGE.out _)) | (with_reducible exact HS.out _ (HW1.out.alloc HW1.out.size _)) | (with_reducible exact HS.out _ ((Below.refl wa.heap.size wa).alloc (Nat.le_refl _) _).drew)
        clear hK K hHeld
        have hHeld := hHeld2
        clear hHeld2
        try simp only [Act.put, List.getElem_toArray, List.getElem_cons_zero, List.getElem_cons_succ, List.setIfInBounds_toArray, List.set_cons_zero, List.set_cons_succ]
        obtain ⟨w2, hw2⟩ : ∃ w2, w2 = w1.alloc (.cells #[.int .i64 0, .int .i64 0, .slice none 0 0] 24) := ⟨_, rfl⟩
        obtain ⟨g, hgg⟩ : ∃ g, g = (w1).heap.size := ⟨_, rfl⟩
        rw [← hw2, ← hgg]
        have HGE := Aside0.mk (show wa.heap.size ≤ g by rw [hgg]; exact HW1.out.size)
        have HZ := Aside0.mk (show w2.heap[g]? = some (.cells #[.int .i64 0, .int .i64 0, .slice none 0 0] 24 (0, 0)) by rw [hw2, hgg]; exact heap_alloc_new _ _)
        have HW2 := Aside0.mk (show Below wa.heap.size wa w2 by rw [hw2]; exact HW1.out.alloc HW1.out.size _)
        have HN2 := Aside0.mk (show Ngb wa.heap.size g w2 (.slice A6 b.mails.length cap) b.mails by rw [hw2, hgg]; exact Nb.old HN1.out _)
        clear hw2 hgg
        obtain ⟨e0, e1, e2, f0, f1, f2⟩ := cells3 HZ.out
        refine wpAnyH_ready (rs := [9]) (by kernel_rfl) (by simp) ?_
        refine (AllReadyH.cons (o := _) (by simp only [List.getElem?_toArray, List.getElem?_cons_zero, List.getElem?_cons_succ]; rfl) (fun K hK => ?_) AllReadyH.nil)
        go_simp
        refine hK.out _ _ ?_ (fun hHeld2 => ?_)
        · first | (with_reducible exact HS.out _ (Below.refl _ _).drew) | (with_reducible exact HS.out _ HW1.out) | (with_reducible exact HS.out _ HW2.out) | (with_reducible exact HS.out _ ((((HW2.out).setCell HGE.out _).setCell HGE.out _).setCell HGE.out _)) | (with_reducible exact HS.out _ ((((HW1.out).setCell HGE.out _).setCell HGE.out _).setCell HGE.out _)) | (with_reducible exact HS.out _ (HW1.out.alloc HW1.out.size _)) | (with_reducible exact HS.out _ ((Below.refl wa.heap.size wa).alloc (Nat.le_refl _) _).drew)
        clear hK K hHeld
        have hHeld := hHeld2
        clear hHeld2
        try simp only [Act.put, List.getElem_toArray, List.getElem_cons_zero, List.getElem_cons_succ, List.setIfInBounds_toArray, List.set_cons_zero, List.set_cons_succ]
        refine wpAnyH_done (by kernel_rfl) ?_ _
        obtain ⟨h, rfl⟩ := Nb.form HN2.out.nb (by have := H2.out; omega)
        obtain ⟨w3, hw3⟩ : ∃ w3, w3 = ((w2.setCell ⟨g, 0, none⟩ (.int .i64 b.origin)).setCell ⟨g, 1, none⟩ (.int .i64 b.number)).setCell ⟨g, 2, none⟩ (.slice (some ⟨h, 0, none⟩) b.mails.length cap) := ⟨_, rfl⟩
        rw [← hw3]
        go_wp2_with (fail)
        go_meet
        case rel => exact ⟨g, h, cap, rfl, ⟨HGE.out⟩, ⟨by rw [hw3]; exact row3_all HZ.out⟩, ⟨by rw [hw3]; exact HN2.out.far3 _ _ _⟩, ⟨by rw [hw3]; exact ((HW2.out.setCell HGE.out _).setCell HGE.out _).setCell HGE.out _⟩⟩
      · skip
        go_simp
        refine hK.out _ _ ?_ (fun hHeld2 => ?_)
        · first | (with_reducible exact HS.out _ (Below.refl _ _).drew) | (with_reducible exact HS.out _ HW1.out) | (with_reducible exact HS.out _ HW2.out) | (with_reducible exact HS.out _ ((((HW2.out).setCell HGE.out _).setCell HGE.out _).setCell HGE.out _)) | (with_reducible exact HS.out _ ((((HW1.out).setCell HGE.out _).setCell HGE.out _).setCell HGE.out _)) | (with_reducible exact HS.out _ (HW1.out.alloc HW1.out.size _)) | (with_reducible exact HS.out _ ((Below.refl wa.heap.size wa).alloc (Nat.le_refl _) _).drew)
        clear hK K hHeld
        have hHeld := hHeld2
        clear hHeld2
        try simp only [Act.put, List.getElem_toArray, List.getElem_cons_zero, List.getElem_cons_succ, List.setIfInBounds_toArray, List.set_cons_zero, List.set_cons_succ]
        obtain ⟨w2, hw2⟩ : ∃ w2, w2 = (wa.alloc (.cells #[.int .i64 0, .int .i64 0, .slice none 0 0] 24)).drew := ⟨_, rfl⟩
        obtain ⟨g, hgg⟩ : ∃ g, g = (wa).heap.size := ⟨_, rfl⟩
        rw [← hw2, ← hgg]
        have HGE := Aside0.mk (show wa.heap.size ≤ g by rw [hgg]; exact Nat.le_refl _)
        have HZ := Aside0.mk (show w2.heap[g]? = some (.cells #[.int .i64 0, .int .i64 0, .slice none 0 0] 24 (0, 0)) by rw [hw2, hgg]; exact heap_alloc_new _ _)
        have HW2 := Aside0.mk (show Below wa.heap.size wa w2 by rw [hw2]; exact ((Below.refl wa.heap.size wa).alloc (Nat.le_refl _) _).drew)
        have HGB := Aside0.mk (Array.getElem?_eq_some_iff.1 HZ.out).1
        clear hw2 hgg
        obtain ⟨e0, e1, e2, f0, f1, f2⟩ := cells3 HZ.out
        refine wpAnyH_ready (rs := [6]) (by kernel_rfl) (by simp) ?_
        refine (AllReadyH.cons (o := _) (by simp only [List.getElem?_toArray, List.getElem?_cons_zero, List.getElem?_cons_succ]; rfl) (fun K hK => ?_) AllReadyH.nil)
        go_simp
        go_at_call 11
        (with_reducible refine Calls.mono (HTM.out _ ?_) ?_)
        · exact HW2.out
        rintro e w1 ⟨⟨A6, cap, rfl, hN1⟩, h⟩
        have HW1 := Aside0.mk (HW2.out.trans (h.mono HW2.out.size))
        have HZ2 := Aside0.mk (row_on h HZ.out)
        clear HZ f0 f1 f2 e0 e1 e2
        have HZ := Aside0.mk HZ2.out
        obtain ⟨e0, e1, e2, f0, f1, f2⟩ := cells3 HZ.out
        clear HZ2
        have HN1 := Aside0.mk hN1
        clear h hN1
        go_wp2_with (fail)
        refine hK.out _ _ ?_ (fun hHeld2 => ?_)
        · first | (with_reducible exact HS.out _ (Below.refl _ _).drew) | (with_reducible exact HS.out _ HW1.out) | (with_reducible exact HS.out _ HW2.out) | (with_reducible exact HS.out _ ((((HW2.out).setCell HGE.out _).setCell HGE.out _).setCell HGE.out _)) | (with_reducible exact HS.out _ ((((HW1.out).setCell HGE.out _).setCell HGE.out _).setCell HGE.out _)) | (with_reducible exact HS.out _ (HW1.out.alloc HW1.out.size _)) | (with_reducible exact HS.out _ ((Below.refl wa.heap.size wa).alloc (Nat.le_refl _) _).drew)
        clear hK K hHeld
        have hHeld := hHeld2
        clear hHeld2
        try simp only [Act.put, List.getElem_toArray, List.getElem_cons_zero, List.getElem_cons_succ, List.setIfInBounds_toArray, List.set_cons_zero, List.set_cons_succ]
        refine wpAnyH_take (i := 7) (oi := _) (v := ?_) rfl (by kernel_rfl) (by kernel_rfl) (by kernel_rfl) (fun _ _ _ h => h) (Or.inl ⟨by rfl, ?_⟩) (by assumption) ?_
        case refine_2 => (intro w hSw; (try dsimp only [List.getElem_toArray, List.getElem_cons_zero, List.getElem_cons_succ] at hSw ⊢); go_simp; (try with_reducible rfl))
        try simp only [Act.put, List.getElem_toArray, List.getElem_cons_zero, List.getElem_cons_succ, List.setIfInBounds_toArray, List.set_cons_zero, List.set_cons_succ]
        refine wpAnyH_ready (rs := [9]) (by kernel_rfl) (by simp) ?_
        refine (AllReadyH.cons (o := _) (by simp only [List.getElem?_toArray, List.getElem?_cons_zero, List.getElem?_cons_succ]; rfl) (fun K hK => ?_) AllReadyH.nil)
        go_simp
        refine hK.out _ _ ?_ (fun hHeld2 => ?_)
        · first | (with_reducible exact HS.out _ (Below.refl _ _).drew) | (with_reducible exact HS.out _ HW1.out) | (with_reducible exact HS.out _ HW2.out) | (with_reducible exact HS.out _ ((((HW2.out).setCell HGE.out _).setCell HGE.out _).setCell HGE.out _)) | (with_reducible exact HS.out _ ((((HW1.out).setCell HGE.out _).setCell HGE.out _).setCell HGE.out _)) | (with_reducible exact HS.out _ (HW1.out.alloc HW1.out.size _)) | (with_reducible exact HS.out _ ((Below.refl wa.heap.size wa).alloc (Nat.le_refl _) _).drew)
        clear hK K hHeld
        have hHeld := hHeld2
        clear hHeld2
        try simp only [Act.put, List.getElem_toArray, List.getElem_cons_zero, List.getElem_cons_succ, List.setIfInBounds_toArray, List.set_cons_zero, List.set_cons_succ]
        refine wpAnyH_done (by kernel_rfl) ?_ _
        obtain ⟨h, rfl⟩ := Nb.form HN1.out (by have := H2.out; omega)
        obtain ⟨w3, hw3⟩ : ∃ w3, w3 = ((w1.setCell ⟨g, 0, none⟩ (.int .i64 b.origin)).setCell ⟨g, 1, none⟩ (.int .i64 b.number)).setCell ⟨g, 2, none⟩ (.slice (some ⟨h, 0, none⟩) b.mails.length cap) := ⟨_, rfl⟩
        rw [← hw3]
        go_wp2_with (fail)
        go_meet
        case rel => exact ⟨g, h, cap, rfl, ⟨HGE.out⟩, ⟨by rw [hw3]; exact row3_all HZ.out⟩, ⟨by rw [hw3]; exact Nb.low (Nb.far3 HN1.out HGB.out _ _ _) HW2.out.size⟩, ⟨by rw [hw3]; exact ((HW1.out.setCell HGE.out _).setCell HGE.out _).setCell HGE.out _⟩⟩
    case rest =>
    obtain ⟨g, h, cap, rfl, HGE, HRC, HN, HWc⟩ := hcut
    obtain ⟨wc, rfl⟩ : ∃ wz : World, wz = wc := ⟨_, rfl⟩
    apply_assumption
    obtain ⟨r0, r1, hr0, hr1, R0, R1, O0, O1, T0, T1, hN7, hB7, hG7⟩ := mails_swap (W := wc.drew) (Kd.N_drew HN.out) H2.out m0 m1 HM0.out HM1.out
    have HL0 := Aside0.mk hr0
    have HL1 := Aside0.mk hr1
    have HO0 := Aside0.mk (show r0.toArray.all (·.oneCell') = true from by rw [Array.all_eq_true_iff_forall_mem]; intro x hx; exact O0 x (by simpa using hx))
    have HO1 := Aside0.mk (show r1.toArray.all (·.oneCell') = true from by rw [Array.all_eq_true_iff_forall_mem]; intro x hx; exact O1 x (by simpa using hx))
    rw [← HCL.out] at hN7
    have HN7 := Aside0.mk hN7
    have HB7 := Aside0.mk (hB7 wa HWc.out.drew)
    have HGH := Aside0.mk (show g ≠ h from fun e => Kd.N_ne HN.out HRC.out (by decide) (by rw [e]; rfl))
    have HS7 := Aside0.mk (fun (W : World) (hW : W.heap[g]? = wc.heap[g]?) => (cells3 (hW.trans HRC.out)).2.2.1)
    clear hr0 hr1 O0 O1 hN7 hB7 hG7
    go_upto_region 7 with (fail)
    go_cut [] (fun wd => Aside0 (wd.heap[g]? = some (.cells #[.int .i64 b.origin, .int .i64 b.number, .slice (some ⟨h, 0, none⟩) b.mails.length cap] 24 (0, 0))) ∧ Aside0 (Nb wa.heap.size wd (.slice (some ⟨h, 0, none⟩) b.mails.length cap) CL) ∧ Aside0 (Below wa.heap.size wa wd))
    case first =>
      refine wp_region_held_drew (S := (fun w' => w'.cell? ⟨g, 2, none⟩ = some (.slice (some ⟨h, 0, none⟩) b.mails.length cap))) (by kernel_rfl) ?_ (fun hHeld => ?_)
      · first | exact HS7.out _ rfl | exact HS7.out _ (setCells_far _ _ _ HGH.out) | exact HS7.out _ ((setCells_far _ _ _ HGH.out).trans (setCells_far _ _ _ HGH.out))
      refine wpAnyH_take (i := 0) (oi := _) (v := ?_) rfl (by kernel_rfl) (by kernel_rfl) (by kernel_rfl) (fun _ _ _ h => h) (Or.inl ⟨by rfl, ?_⟩) (by assumption) ?_
      case refine_2 => (intro w hSw; (try dsimp only [List.getElem_toArray, List.getElem_cons_zero, List.getElem_cons_succ] at hSw ⊢); go_simp; (try with_reducible rfl))
      try simp only [Act.put, List.getElem_toArray, List.getElem_cons_zero, List.getElem_cons_succ, List.setIfInBounds_toArray, List.set_cons_zero, List.set_cons_succ]
      refine wpAnyH_take (i := 1) (oi := _) (v := ?_) rfl (by kernel_rfl) (by kernel_rfl) (by kernel_rfl) (fun _ _ _ h => h) (Or.inl ⟨by rfl, ?_⟩) (by assumption) ?_
      case refine_2 => (intro w hSw; (try dsimp only [List.getElem_toArray, List.getElem_cons_zero, List.getElem_cons_succ] at hSw ⊢); go_simp; (try with_reducible rfl))
      try simp only [Act.put, List.getElem_toArray, List.getElem_cons_zero, List.getElem_cons_succ, List.setIfInBounds_toArray, List.set_cons_zero, List.set_cons_succ]
      refine wpAnyH_take (i := 2) (oi := _) (v := ?_) rfl (by kernel_rfl) (by kernel_rfl) (by kernel_rfl) (fun _ _ _ h => h) (Or.inl ⟨by rfl, ?_⟩) (by assumption) ?_
      case refine_2 => (intro w hSw; (try dsimp only [List.getElem_toArray, List.getElem_cons_zero, List.getElem_cons_succ] at hSw ⊢); go_simp; (try with_reducible rfl))
      try simp only [Act.put, List.getElem_toArray, List.getElem_cons_zero, List.getElem_cons_succ, List.setIfInBounds_toArray, List.set_cons_zero, List.set_cons_succ]
      refine wpAnyH_take (i := 3) (oi := _) (v := ?_) rfl (by kernel_rfl) (by kernel_rfl) (by kernel_rfl) (fun _ _ _ h => h) (Or.inl ⟨by rfl, ?_⟩) (by assumption) ?_
      case refine_2 => (intro w hSw; (try dsimp only [List.getElem_toArray, List.getElem_cons_zero, List.getElem_cons_succ] at hSw ⊢); go_simp; (try with_reducible rfl))
      try simp only [Act.put, List.getElem_toArray, List.getElem_cons_zero, List.getElem_cons_succ, List.setIfInBounds_toArray, List.set_cons_zero, List.set_cons_succ]
      refine wpAnyH_take (i := 4) (oi := _) (v := ?_) rfl (by kernel_rfl) (by kernel_rfl) (by kernel_rfl) (fun _ _ _ h => h) (Or.inl ⟨by rfl, ?_⟩) (by assumption) ?_
      case refine_2 => (intro w hSw; (try dsimp only [List.getElem_toArray, List.getElem_cons_zero, List.getElem_cons_succ] at hSw ⊢); go_simp; (try with_reducible rfl))
      try simp only [Act.put, List.getElem_toArray, List.getElem_cons_zero, List.getElem_cons_succ, List.setIfInBounds_toArray, List.set_cons_zero, List.set_cons_succ]
      refine wpAnyH_take (i := 5) (oi := _) (v := ?_) rfl (by kernel_rfl) (by kernel_rfl) (by kernel_rfl) (fun _ _ _ h => h) (Or.inl ⟨by rfl, ?_⟩) (by assumption) ?_
      case refine_2 => (intro w hSw; (try dsimp only [List.getElem_toArray, List.getElem_cons_zero, List.getElem_cons_succ] at hSw ⊢); go_simp; (try with_reducible rfl))
      try simp only [Act.put, List.getElem_toArray, List.getElem_cons_zero, List.getElem_cons_succ, List.setIfInBounds_toArray, List.set_cons_zero, List.set_cons_succ]
      refine wpAnyH_take (i := 6) (oi := _) (v := ?_) rfl (by kernel_rfl) (by kernel_rfl) (by kernel_rfl) (fun _ _ _ h => h) (Or.inl ⟨by rfl, ?_⟩) (by assumption) ?_
      case refine_2 => (intro w hSw; (try dsimp only [List.getElem_toArray, List.getElem_cons_zero, List.getElem_cons_succ] at hSw ⊢); go_simp; (try with_reducible rfl))
      try simp only [Act.put, List.getElem_toArray, List.getElem_cons_zero, List.getElem_cons_succ, List.setIfInBounds_toArray, List.set_cons_zero, List.set_cons_succ]
      refine wpAnyH_take (i := 8) (oi := _) (v := ?_) rfl (by kernel_rfl) (by kernel_rfl) (by kernel_rfl) (fun _ _ _ h => h) (Or.inl ⟨by rfl, ?_⟩) (by assumption) ?_
      case refine_2 => (intro w hSw; (try dsimp only [List.getElem_toArray, List.getElem_cons_zero, List.getElem_cons_succ] at hSw ⊢); go_simp; (try with_reducible rfl))
      try simp only [Act.put, List.getElem_toArray, List.getElem_cons_zero, List.getElem_cons_succ, List.setIfInBounds_toArray, List.set_cons_zero, List.set_cons_succ]
      refine wpAnyH_take (i := 9) (oi := _) (v := ?_) rfl (by kernel_rfl) (by kernel_rfl) (by kernel_rfl) (fun _ _ _ h => h) (Or.inl ⟨by rfl, ?_⟩) (by assumption) ?_
      case refine_2 => (intro w hSw; (try dsimp only [List.getElem_toArray, List.getElem_cons_zero, List.getElem_cons_succ] at hSw ⊢); go_simp; (try with_reducible rfl))
      try simp only [Act.put, List.getElem_toArray, List.getElem_cons_zero, List.getElem_cons_succ, List.setIfInBounds_toArray, List.set_cons_zero, List.set_cons_succ]
      refine wpAnyH_take (i := 10) (oi := _) (v := ?_) rfl (by kernel_rfl) (by kernel_rfl) (by kernel_rfl) (fun _ _ _ h => h) (Or.inl ⟨by rfl, ?_⟩) (by assumption) ?_
      case refine_2 => (intro w hSw; (try dsimp only [List.getElem_toArray, List.getElem_cons_zero, List.getElem_cons_succ] at hSw ⊢); go_simp; (try with_reducible rfl))
      try simp only [Act.put, List.getElem_toArray, List.getElem_cons_zero, List.getElem_cons_succ, List.setIfInBounds_toArray, List.set_cons_zero, List.set_cons_succ]
      refine wpAnyH_ready (rs := [7, 11]) (by kernel_rfl) (by simp) ?_
      refine (AllReadyH.cons (o := _) (by simp only [List.getElem?_toArray, List.getElem?_cons_zero, List.getElem?_cons_succ]; rfl) (fun K hK => ?_) (AllReadyH.cons (o := _) (by simp only [List.getElem?_toArray, List.getElem?_cons_zero, List.getElem?_cons_succ]; rfl) (fun K hK => ?_) AllReadyH.nil))
      · skip
        refine if_mid (by rfl) ?_
        refine wp_load_mid 46 (.tmp 54) rfl h 8 rfl r1 _ R1 Tryz.underlying46 rfl (by rw [HL1.out]; kernel_rfl) ?_
        refine hK.out _ _ ?_ (fun hHeld2 => ?_)
        · first | exact HS7.out _ rfl | exact HS7.out _ (setCells_far _ _ _ HGH.out) | exact HS7.out _ ((setCells_far _ _ _ HGH.out).trans (setCells_far _ _ _ HGH.out))
        clear hK K hHeld
        have hHeld := hHeld2
        clear hHeld2
        try simp only [Act.put, List.getElem_toArray, List.getElem_cons_zero, List.getElem_cons_succ, List.setIfInBounds_toArray, List.set_cons_zero, List.set_cons_succ]
        refine wpAnyH_ready (rs := [11]) (by kernel_rfl) (by simp) ?_
        refine (AllReadyH.cons (o := _) (by simp only [List.getElem?_toArray, List.getElem?_cons_zero, List.getElem?_cons_succ]; rfl) (fun K hK => ?_) AllReadyH.nil)
        refine if_mid (by rfl) ?_
        refine wp_load_mid 46 (.tmp 58) rfl h 0 rfl r0 _ R0 Tryz.underlying46 rfl (by rw [HL0.out]; kernel_rfl) ?_
        refine hK.out _ _ ?_ (fun hHeld2 => ?_)
        · first | exact HS7.out _ rfl | exact HS7.out _ (setCells_far _ _ _ HGH.out) | exact HS7.out _ ((setCells_far _ _ _ HGH.out).trans (setCells_far _ _ _ HGH.out))
        clear hK K hHeld
        have hHeld := hHeld2
        clear hHeld2
        try simp only [Act.put, List.getElem_toArray, List.getElem_cons_zero, List.getElem_cons_succ, List.setIfInBounds_toArray, List.set_cons_zero, List.set_cons_succ]
        refine wpAnyH_take (i := 12) (oi := _) (v := ?_) rfl (by kernel_rfl) (by kernel_rfl) (by kernel_rfl) (fun _ _ _ h => h) (Or.inl ⟨by rfl, ?_⟩) (by assumption) ?_
        case refine_2 => (intro w hSw; (try dsimp only [List.getElem_toArray, List.getElem_cons_zero, List.getElem_cons_succ] at hSw ⊢); go_simp; (try with_reducible rfl))
        try simp only [Act.put, List.getElem_toArray, List.getElem_cons_zero, List.getElem_cons_succ, List.setIfInBounds_toArray, List.set_cons_zero, List.set_cons_succ]
        refine wpAnyH_ready (rs := [13]) (by kernel_rfl) (by simp) ?_
        refine (AllReadyH.cons (o := _) (by simp only [List.getElem?_toArray, List.getElem?_cons_zero, List.getElem?_cons_succ]; rfl) (fun K hK => ?_) AllReadyH.nil)
        refine if_mid (by rfl) ?_
        refine wp_store_mid 46 (.tmp 60) (.tmp 55) rfl h 0 r1.toArray rfl rfl (by rw [List.size_toArray, HL1.out]; exact T0) (by rw [List.size_toArray, HL1.out]; kernel_rfl) HO1.out ?_
        change K _ (wc.drew.setCells h 0 r1)
        refine hK.out _ _ ?_ (fun hHeld2 => ?_)
        · first | exact HS7.out _ rfl | exact HS7.out _ (setCells_far _ _ _ HGH.out) | exact HS7.out _ ((setCells_far _ _ _ HGH.out).trans (setCells_far _ _ _ HGH.out))
        clear hK K hHeld
        have hHeld := hHeld2
        clear hHeld2
        try simp only [Act.put, List.getElem_toArray, List.getElem_cons_zero, List.getElem_cons_succ, List.setIfInBounds_toArray, List.set_cons_zero, List.set_cons_succ]
        refine wpAnyH_take (i := 14) (oi := _) (v := ?_) rfl (by kernel_rfl) (by kernel_rfl) (by kernel_rfl) (fun _ _ _ h => h) (Or.inl ⟨by rfl, ?_⟩) (by assumption) ?_
        case refine_2 => (intro w hSw; (try dsimp only [List.getElem_toArray, List.getElem_cons_zero, List.getElem_cons_succ] at hSw ⊢); go_simp; (try with_reducible rfl))
        try simp only [Act.put, List.getElem_toArray, List.getElem_cons_zero, List.getElem_cons_succ, List.setIfInBounds_toArray, List.set_cons_zero, List.set_cons_succ]
        refine wpAnyH_ready (rs := [15]) (by kernel_rfl) (by simp) ?_
        refine (AllReadyH.cons (o := _) (by simp only [List.getElem?_toArray, List.getElem?_cons_zero, List.getElem?_cons_succ]; rfl) (fun K hK => ?_) AllReadyH.nil)
        refine if_mid (by rfl) ?_
        refine wp_store_mid 46 (.tmp 61) (.tmp 59) rfl h 8 r0.toArray rfl rfl (by rw [List.size_toArray, HL0.out]; exact World.there_setCells T1 _ _ _) (by rw [List.size_toArray, HL0.out]; kernel_rfl) HO0.out ?_
        change K _ ((wc.drew.setCells h 0 r1).setCells h 8 r0)
        refine hK.out _ _ ?_ (fun hHeld2 => ?_)
        · first | exact HS7.out _ rfl | exact HS7.out _ (setCells_far _ _ _ HGH.out) | exact HS7.out _ ((setCells_far _ _ _ HGH.out).trans (setCells_far _ _ _ HGH.out))
        clear hK K hHeld
        have hHeld := hHeld2
        clear hHeld2
        try simp only [Act.put, List.getElem_toArray, List.getElem_cons_zero, List.getElem_cons_succ, List.setIfInBounds_toArray, List.set_cons_zero, List.set_cons_succ]
        refine wpAnyH_done (by kernel_rfl) ?_ _
        obtain ⟨w7, hw7⟩ : ∃ w7, w7 = (wc.drew.setCells h 0 r1).setCells h 8 r0 := ⟨_, rfl⟩
        rw [← hw7]
        go_wp2_with (fail)
        go_meet
        case rel => exact ⟨⟨by rw [hw7]; exact ((setCells_far _ _ _ HGH.out).trans (setCells_far _ _ _ HGH.out)).trans HRC.out⟩, ⟨by rw [hw7]; exact HN7.out⟩, ⟨by rw [hw7]; exact HB7.out⟩⟩
      · skip
        refine if_mid (by rfl) ?_
        refine wp_load_mid 46 (.tmp 58) rfl h 0 rfl r0 _ R0 Tryz.underlying46 rfl (by rw [HL0.out]; kernel_rfl) ?_
        refine hK.out _ _ ?_ (fun hHeld2 => ?_)
        · first | exact HS7.out _ rfl | exact HS7.out _ (setCells_far _ _ _ HGH.out) | exact HS7.out _ ((setCells_far _ _ _ HGH.out).trans (setCells_far _ _ _ HGH.out))
        clear hK K hHeld
        have hHeld := hHeld2
        clear hHeld2
        try simp only [Act.put, List.getElem_toArray, List.getElem_cons_zero, List.getElem_cons_succ, List.setIfInBounds_toArray, List.set_cons_zero, List.set_cons_succ]
        refine wpAnyH_ready (rs := [7]) (by kernel_rfl) (by simp) ?_
        refine (AllReadyH.cons (o := _) (by simp only [List.getElem?_toArray, List.getElem?_cons_zero, List.getElem?_cons_succ]; rfl) (fun K hK => ?_) AllReadyH.nil)
        refine if_mid (by rfl) ?_
        refine wp_load_mid 46 (.tmp 54) rfl h 8 rfl r1 _ R1 Tryz.underlying46 rfl (by rw [HL1.out]; kernel_rfl) ?_
        refine hK.out _ _ ?_ (fun hHeld2 => ?_)
        · first | exact HS7.out _ rfl | exact HS7.out _ (setCells_far _ _ _ HGH.out) | exact HS7.out _ ((setCells_far _ _ _ HGH.out).trans (setCells_far _ _ _ HGH.out))
        clear hK K hHeld
        have hHeld := hHeld2
        clear hHeld2
        try simp only [Act.put, List.getElem_toArray, List.getElem_cons_zero, List.getElem_cons_succ, List.setIfInBounds_toArray, List.set_cons_zero, List.set_cons_succ]
        refine wpAnyH_take (i := 12) (oi := _) (v := ?_) rfl (by kernel_rfl) (by kernel_rfl) (by kernel_rfl) (fun _ _ _ h => h) (Or.inl ⟨by rfl, ?_⟩) (by assumption) ?_
        case refine_2 => (intro w hSw; (try dsimp only [List.getElem_toArray, List.getElem_cons_zero, List.getElem_cons_succ] at hSw ⊢); go_simp; (try with_reducible rfl))
        try simp only [Act.put, List.getElem_toArray, List.getElem_cons_zero, List.getElem_cons_succ, List.setIfInBounds_toArray, List.set_cons_zero, List.set_cons_succ]
        refine wpAnyH_ready (rs := [13]) (by kernel_rfl) (by simp) ?_
        refine (AllReadyH.cons (o := _) (by simp only [List.getElem?_toArray, List.getElem?_cons_zero, List.getElem?_cons_succ]; rfl) (fun K hK => ?_) AllReadyH.nil)
        refine if_mid (by rfl) ?_
        refine wp_store_mid 46 (.tmp 60) (.tmp 55) rfl h 0 r1.toArray rfl rfl (by rw [List.size_toArray, HL1.out]; exact T0) (by rw [List.size_toArray, HL1.out]; kernel_rfl) HO1.out ?_
        change K _ (wc.drew.setCells h 0 r1)
        refine hK.out _ _ ?_ (fun hHeld2 => ?_)
        · first | exact HS7.out _ rfl | exact HS7.out _ (setCells_far _ _ _ HGH.out) | exact HS7.out _ ((setCells_far _ _ _ HGH.out).trans (setCells_far _ _ _ HGH.out))
        clear hK K hHeld
        have hHeld := hHeld2
        clear hHeld2
        try simp only [Act.put, List.getElem_toArray, List.getElem_cons_zero, List.getElem_cons_succ, List.setIfInBounds_toArray, List.set_cons_zero, List.set_cons_succ]
        refine wpAnyH_take (i := 14) (oi := _) (v := ?_) rfl (by kernel_rfl) (by kernel_rfl) (by kernel_rfl) (fun _ _ _ h => h) (Or.inl ⟨by rfl, ?_⟩) (by assumption) ?_
        case refine_2 => (intro w hSw; (try dsimp only [List.getElem_toArray, List.getElem_cons_zero, List.getElem_cons_succ] at hSw ⊢); go_simp; (try with_reducible rfl))
        try simp only [Act.put, List.getElem_toArray, List.getElem_cons_zero, List.getElem_cons_succ, List.setIfInBounds_toArray, List.set_cons_zero, List.set_cons_succ]
        refine wpAnyH_ready (rs := [15]) (by kernel_rfl) (by simp) ?_
        refine (AllReadyH.cons (o := _) (by simp only [List.getElem?_toArray, List.getElem?_cons_zero, List.getElem?_cons_succ]; rfl) (fun K hK => ?_) AllReadyH.nil)
        refine if_mid (by rfl) ?_
        refine wp_store_mid 46 (.tmp 61) (.tmp 59) rfl h 8 r0.toArray rfl rfl (by rw [List.size_toArray, HL0.out]; exact World.there_setCells T1 _ _ _) (by rw [List.size_toArray, HL0.out]; kernel_rfl) HO0.out ?_
        change K _ ((wc.drew.setCells h 0 r1).setCells h 8 r0)
        refine hK.out _ _ ?_ (fun hHeld2 => ?_)
        · first | exact HS7.out _ rfl | exact HS7.out _ (setCells_far _ _ _ HGH.out) | exact HS7.out _ ((setCells_far _ _ _ HGH.out).trans (setCells_far _ _ _ HGH.out))
        clear hK K hHeld
        have hHeld := hHeld2
        clear hHeld2
        try simp only [Act.put, List.getElem_toArray, List.getElem_cons_zero, List.getElem_cons_succ, List.setIfInBounds_toArray, List.set_cons_zero, List.set_cons_succ]
        refine wpAnyH_done (by kernel_rfl) ?_ _
        obtain ⟨w7, hw7⟩ : ∃ w7, w7 = (wc.drew.setCells h 0 r1).setCells h 8 r0 := ⟨_, rfl⟩
        rw [← hw7]
        go_wp2_with (fail)
        go_meet
        case rel => exact ⟨⟨by rw [hw7]; exact ((setCells_far _ _ _ HGH.out).trans (setCells_far _ _ _ HGH.out)).trans HRC.out⟩, ⟨by rw [hw7]; exact HN7.out⟩, ⟨by rw [hw7]; exact HB7.out⟩⟩
    case rest =>
    obtain ⟨HRD, HND, HWd⟩ := hcut
    obtain ⟨wd, rfl⟩ : ∃ wz : World, wz = wc := ⟨_, rfl⟩
    apply_assumption
    have HRB := Aside0.mk (row_on HWd.out HRa.out)
    have HFd := Aside0.mk (HF.out.on HWd.out)
    have HBd := Aside0.mk (HB.out.on (HWa.out.trans (HWd.out.mono HWa.out.size)))
    have HVd := Aside0.mk (HV.out.go (HWa.out.trans (HWd.out.mono HWa.out.size)))
    have HFS := Aside0.mk (fit_swap HFIT.out H2.out m0 m1 HM0.out HM1.out)
    have hrc := Kd.N_reads' HND.out
    have HCd := Aside0.mk (show Bn wd ⟨b.origin, b.number, CL⟩ (some ⟨h, 0, none⟩) cap from ⟨by show CL.length ≤ cap; rw [← hrc.1]; exact hrc.2.1, hrc.2.2⟩)
    have HBC := Aside0.mk (fun W (hW : Below wd.heap.size wd W) => (show Calls Tryz.prog 13 #[.agg #[.int .i64 b.origin, .int .i64 b.number, .slice (some ⟨h, 0, none⟩) b.mails.length cap]] W fun e w' => (∃ A1 c1, e = .returned (.tuple #[.slice A1 Y1.length c1, .int .i64 Y2]) ∧ Bt w' A1 c1 Y1) ∧ Below W.heap.size W w' by
      have h := bytes_any ⟨b.origin, b.number, CL⟩ (some ⟨h, 0, none⟩) cap W (HCd.out.on hW) (by rw [HCL.out]; exact HFS.out.1) (HVd.out.go hW)
      rw [HY.out] at h
      simp only [HCLl.out] at h
      exact h.mono (fun e w' h => ⟨let ⟨A1, c1, h1, h2⟩ := h.1; ⟨A1, c1, h1, h2.bt⟩, h.2⟩)))
    obtain ⟨AT, hAT⟩ : ∃ AT, AT = (if c = 1 then A else Option.map (fun x => { block := x.block, off := x.off + 8 }) A) := ⟨_, rfl⟩
    have HAT := Aside0.mk hAT
    clear hAT
    have HBT := Aside0.mk (fun W (hW : Below wd.heap.size wd W) => (show Calls Tryz.prog 13 #[.agg #[.int .i64 b.origin, .int .i64 b.number, .slice AT (b.mails.length - 1) (c - 1)]] W fun e w' => (∃ A1 c1, e = .returned (.tuple #[.slice A1 Z1.length c1, .int .i64 Z2]) ∧ Bt w' A1 c1 Z1) ∧ Below W.heap.size W w' by
      have h := bytes_any ⟨b.origin, b.number, TL⟩ AT (c - 1) W (by rw [HAT.out]; exact bn_tail (HBd.out.on hW) H2.out HTL.out) (by rw [HTL.out]; exact HFS.out.2) (HVd.out.go hW)
      rw [HZ.out] at h
      simp only at h
      rw [show TL.length = b.mails.length - 1 by rw [HTL.out, List.length_drop]] at h
      exact h.mono (fun e w' h => ⟨let ⟨A1, c1, h1, h2⟩ := h.1; ⟨A1, c1, h1, h2.bt⟩, h.2⟩)))
    have HW := Aside0.mk (Below.refl wd.heap.size wd)
    clear hrc
    obtain ⟨b0, b1, b2, g0, g1, g2⟩ := cells3 HRB.out
    obtain ⟨e0, e1, e2, f0, f1, f2⟩ := cells3 HRD.out
    go_wp2_with (first | (go_at_call 13; (with_reducible refine Calls.mono (HBC.out _ (by first | exact HW.out | exact HW.out.alloc HW.out.size _)) ?_); rintro e wq ⟨⟨A7, c7, rfl, hfr⟩, h⟩; have hwN := (by first | exact HW.out.trans (h.mono HW.out.size) | exact (HW.out.alloc HW.out.size _).trans (h.mono (HW.out.alloc HW.out.size _).size) : Below wd.heap.size wd wq); have HFY := Aside0.mk hfr; clear hfr; clear HW h; have HW := Aside0.mk hwN; (try clear b0 b1 b2 g0 g1 g2 bne bd0 bd1 bd2); obtain ⟨b0, b1, b2, g0, g1, g2⟩ := cells3 (row_on hwN HRB.out); have bne := Nat.ne_of_lt (Array.getElem?_eq_some_iff.1 (row_on hwN HRB.out)).1; have bd0 := fun o => (cells3 (row_on (hwN.alloc hwN.size o) HRB.out)).1; have bd1 := fun o => (cells3 (row_on (hwN.alloc hwN.size o) HRB.out)).2.1; have bd2 := fun o => (cells3 (row_on (hwN.alloc hwN.size o) HRB.out)).2.2.1; (try clear e0 e1 e2 f0 f1 f2 ene ed0 ed1 ed2); obtain ⟨e0, e1, e2, f0, f1, f2⟩ := cells3 (row_on hwN HRD.out); have ene := Nat.ne_of_lt (Array.getElem?_eq_some_iff.1 (row_on hwN HRD.out)).1; have ed0 := fun o => (cells3 (row_on (hwN.alloc hwN.size o) HRD.out)).1; have ed1 := fun o => (cells3 (row_on (hwN.alloc hwN.size o) HRD.out)).2.1; have ed2 := fun o => (cells3 (row_on (hwN.alloc hwN.size o) HRD.out)).2.2.1; clear hwN))
    obtain ⟨wf, rfl⟩ : ∃ wz : World, wz = wq := ⟨_, rfl⟩
    have HS := Aside0.mk (fun W (hW : Below wd.heap.size wd W) => let ⟨x0, x1, x2, _⟩ := cells3 (row_on hW HRB.out); And.intro x0 (And.intro x1 x2))
    go_upto_region 9 with (fail)
    go_cut [8, 9] (fun v8 v9 we => ∃ (A9 : Option Addr) (c9 : Nat), v8 = .slice A9 Z1.length c9 ∧ v9 = .int .i64 Z2 ∧ Aside0 (Bt we A9 c9 Z1) ∧ Aside0 (Below wf.heap.size wf we))
    case first =>
      refine wp_region_held_drew (S := (fun w' => w'.cell? ⟨w.heap.size, 0, none⟩ = some (.int .i64 b.origin) ∧ w'.cell? ⟨w.heap.size, 1, none⟩ = some (.int .i64 b.number) ∧ w'.cell? ⟨w.heap.size, 2, none⟩ = some (.slice A b.mails.length c))) (by kernel_rfl) ?_ (fun hHeld => ?_)
      · first | (with_reducible exact HS.out _ HW.out.drew) | (with_reducible exact HS.out _ (HW.out.trans (HW9.out.mono HW.out.size)))
      refine wpAnyH_take (i := 0) (oi := _) (v := ?_) rfl (by kernel_rfl) (by kernel_rfl) (by kernel_rfl) (fun _ _ _ h => h) (Or.inl ⟨by rfl, ?_⟩) (by assumption) ?_
      case refine_2 => (intro w hSw; (try dsimp only [List.getElem_toArray, List.getElem_cons_zero, List.getElem_cons_succ] at hSw ⊢); go_simp; (try with_reducible rfl))
      try simp only [Act.put, List.getElem_toArray, List.getElem_cons_zero, List.getElem_cons_succ, List.setIfInBounds_toArray, List.set_cons_zero, List.set_cons_succ]
      refine wpAnyH_take (i := 1) (oi := _) (v := ?_) rfl (by kernel_rfl) (by kernel_rfl) (by kernel_rfl) (fun _ _ _ h => h) (Or.inl ⟨by rfl, ?_⟩) (by assumption) ?_
      case refine_2 => (intro w hSw; (try dsimp only [List.getElem_toArray, List.getElem_cons_zero, List.getElem_cons_succ] at hSw ⊢); go_simp; (try with_reducible rfl))
      try simp only [Act.put, List.getElem_toArray, List.getElem_cons_zero, List.getElem_cons_succ, List.setIfInBounds_toArray, List.set_cons_zero, List.set_cons_succ]
      refine wpAnyH_take (i := 2) (oi := _) (v := ?_) rfl (by kernel_rfl) (by kernel_rfl) (by kernel_rfl) (fun _ _ _ h => h) (Or.inl ⟨by rfl, ?_⟩) (by assumption) ?_
      case refine_2 => (intro w hSw; (try dsimp only [List.getElem_toArray, List.getElem_cons_zero, List.getElem_cons_succ] at hSw ⊢); go_simp; (try with_reducible rfl))
      try simp only [Act.put, List.getElem_toArray, List.getElem_cons_zero, List.getElem_cons_succ, List.setIfInBounds_toArray, List.set_cons_zero, List.set_cons_succ]
      refine wpAnyH_take (i := 3) (oi := _) (v := ?_) rfl (by kernel_rfl) (by kernel_rfl) (by kernel_rfl) (fun _ _ _ h => h) (Or.inl ⟨by rfl, ?_⟩) (by assumption) ?_
      case refine_2 => (intro w hSw; (try dsimp only [List.getElem_toArray, List.getElem_cons_zero, List.getElem_cons_succ] at hSw ⊢); go_simp; (try with_reducible rfl))
      try simp only [Act.put, List.getElem_toArray, List.getElem_cons_zero, List.getElem_cons_succ, List.setIfInBounds_toArray, List.set_cons_zero, List.set_cons_succ]
      refine wpAnyH_take (i := 4) (oi := _) (v := ?_) rfl (by kernel_rfl) (by kernel_rfl) (by kernel_rfl) (fun _ _ _ h => h) (Or.inl ⟨by rfl, ?_⟩) (by assumption) ?_
      case refine_2 => (intro w hSw; (try dsimp only [List.getElem_toArray, List.getElem_cons_zero, List.getElem_cons_succ] at hSw ⊢); go_simp; (try with_reducible rfl))
      try simp only [Act.put, List.getElem_toArray, List.getElem_cons_zero, List.getElem_cons_succ, List.setIfInBounds_toArray, List.set_cons_zero, List.set_cons_succ]
      refine wpAnyH_take (i := 5) (oi := _) (v := ?_) rfl (by kernel_rfl) (by kernel_rfl) (by kernel_rfl) (fun _ _ _ h => h) (Or.inl ⟨by rfl, ?_⟩) (by assumption) ?_
      case refine_2 => (intro w hSw; (try dsimp only [List.getElem_toArray, List.getElem_cons_zero, List.getElem_cons_succ] at hSw ⊢); go_simp; (try with_reducible rfl))
      try simp only [Act.put, List.getElem_toArray, List.getElem_cons_zero, List.getElem_cons_succ, List.setIfInBounds_toArray, List.set_cons_zero, List.set_cons_succ]
      refine wpAnyH_take (i := 6) (oi := _) (v := ?_) rfl (by kernel_rfl) (by kernel_rfl) (by kernel_rfl) (fun _ _ _ h => h) (Or.inl ⟨by rfl, ?_⟩) (by assumption) ?_
      case refine_2 => (intro w hSw; (try dsimp only [List.getElem_toArray, List.getElem_cons_zero, List.getElem_cons_succ] at hSw ⊢); go_simp; (try with_reducible rfl))
      try simp only [Act.put, List.getElem_toArray, List.getElem_cons_zero, List.getElem_cons_succ, List.setIfInBounds_toArray, List.set_cons_zero, List.set_cons_succ]
      refine wpAnyH_take (i := 7) (oi := _) (v := ?_) rfl (by kernel_rfl) (by kernel_rfl) (by kernel_rfl) (fun _ _ _ h => h) (Or.inl ⟨by rfl, ?_⟩) (by assumption) ?_
      case refine_2 => (intro w hSw; (try dsimp only [List.getElem_toArray, List.getElem_cons_zero, List.getElem_cons_succ] at hSw ⊢); go_simp; (try with_reducible rfl))
      try simp only [Act.put, List.getElem_toArray, List.getElem_cons_zero, List.getElem_cons_succ, List.setIfInBounds_toArray, List.set_cons_zero, List.set_cons_succ]
      refine wpAnyH_ready (rs := [8]) (by kernel_rfl) (by simp) ?_
      refine (AllReadyH.cons (o := _) (by simp only [List.getElem?_toArray, List.getElem?_cons_zero, List.getElem?_cons_succ]; rfl) (fun K hK => ?_) AllReadyH.nil)
      rw [← HAT.out]
      go_simp
      go_at_call 13
      (with_reducible refine Calls.mono (HBT.out _ ?_) ?_)
      · exact HW.out.drew
      rintro e w9 ⟨⟨A9, c9, rfl, hfr⟩, h⟩
      have HW9 := Aside0.mk (((Below.refl wf.heap.size wf).drew).trans h)
      have HFZ := Aside0.mk hfr
      clear hfr h
      go_wp2_with (fail)
      refine hK.out _ _ ?_ (fun hHeld2 => ?_)
      · first | (with_reducible exact HS.out _ HW.out.drew) | (with_reducible exact HS.out _ (HW.out.trans (HW9.out.mono HW.out.size)))
      clear hK K hHeld
      have hHeld := hHeld2
      clear hHeld2
      try simp only [Act.put, List.getElem_toArray, List.getElem_cons_zero, List.getElem_cons_succ, List.setIfInBounds_toArray, List.set_cons_zero, List.set_cons_succ]
      refine wpAnyH_take (i := 9) (oi := _) (v := ?_) rfl (by kernel_rfl) (by kernel_rfl) (by kernel_rfl) (fun _ _ _ h => h) (Or.inl ⟨by rfl, ?_⟩) (by assumption) ?_
      case refine_2 => (intro w hSw; (try dsimp only [List.getElem_toArray, List.getElem_cons_zero, List.getElem_cons_succ] at hSw ⊢); go_simp; (try with_reducible rfl))
      try simp only [Act.put, List.getElem_toArray, List.getElem_cons_zero, List.getElem_cons_succ, List.setIfInBounds_toArray, List.set_cons_zero, List.set_cons_succ]
      refine wpAnyH_take (i := 10) (oi := _) (v := ?_) rfl (by kernel_rfl) (by kernel_rfl) (by kernel_rfl) (fun _ _ _ h => h) (Or.inl ⟨by rfl, ?_⟩) (by assumption) ?_
      case refine_2 => (intro w hSw; (try dsimp only [List.getElem_toArray, List.getElem_cons_zero, List.getElem_cons_succ] at hSw ⊢); go_simp; (try with_reducible rfl))
      try simp only [Act.put, List.getElem_toArray, List.getElem_cons_zero, List.getElem_cons_succ, List.setIfInBounds_toArray, List.set_cons_zero, List.set_cons_succ]
      refine wpAnyH_take (i := 11) (oi := _) (v := ?_) rfl (by kernel_rfl) (by kernel_rfl) (by kernel_rfl) (fun _ _ _ h => h) (Or.inl ⟨by rfl, ?_⟩) (by assumption) ?_
      case refine_2 => (intro w hSw; (try dsimp only [List.getElem_toArray, List.getElem_cons_zero, List.getElem_cons_succ] at hSw ⊢); go_simp; (try with_reducible rfl))
      try simp only [Act.put, List.getElem_toArray, List.getElem_cons_zero, List.getElem_cons_succ, List.setIfInBounds_toArray, List.set_cons_zero, List.set_cons_succ]
      refine wpAnyH_take (i := 12) (oi := _) (v := ?_) rfl (by kernel_rfl) (by kernel_rfl) (by kernel_rfl) (fun _ _ _ h => h) (Or.inl ⟨by rfl, ?_⟩) (by assumption) ?_
      case refine_2 => (intro w hSw; (try dsimp only [List.getElem_toArray, List.getElem_cons_zero, List.getElem_cons_succ] at hSw ⊢); go_simp; (try with_reducible rfl))
      try simp only [Act.put, List.getElem_toArray, List.getElem_cons_zero, List.getElem_cons_succ, List.setIfInBounds_toArray, List.set_cons_zero, List.set_cons_succ]
      refine wpAnyH_take (i := 13) (oi := _) (v := ?_) rfl (by kernel_rfl) (by kernel_rfl) (by kernel_rfl) (fun _ _ _ h => h) (Or.inl ⟨by rfl, ?_⟩) (by assumption) ?_
      case refine_2 => (intro w hSw; (try dsimp only [List.getElem_toArray, List.getElem_cons_zero, List.getElem_cons_succ] at hSw ⊢); go_simp; (try with_reducible rfl))
      try simp only [Act.put, List.getElem_toArray, List.getElem_cons_zero, List.getElem_cons_succ, List.setIfInBounds_toArray, List.set_cons_zero, List.set_cons_succ]
      refine wpAnyH_done (by kernel_rfl) ?_ _
      go_wp2_with (fail)
      go_meet
      case rel => exact ⟨A9, c9, rfl, rfl, HFZ, HW9⟩
    case rest =>
    obtain ⟨A9, c9, rfl, rfl, HFZ, HWe⟩ := hcut
    obtain ⟨we, rfl⟩ : ∃ wz : World, wz = wc := ⟨_, rfl⟩
    apply_assumption
    have HWde := Aside0.mk (HW.out.trans (HWe.out.mono HW.out.size))
    have HRBe := Aside0.mk (row_on HWde.out HRB.out)
    have HRCe := Aside0.mk (row_on HWde.out HRD.out)
    have HCe := Aside0.mk (HCd.out.on HWde.out)
    have HBe := Aside0.mk (HBd.out.on HWde.out)
    have HXe := Aside0.mk (HFd.out.on HWde.out)
    have HYe := Aside0.mk (HFY.out.on HWe.out)
    have HVe := Aside0.mk (HVd.out.go HWde.out)
    have HWwe := Aside0.mk (HWa.out.trans ((HWd.out.trans (HWde.out.mono HWd.out.size)).mono HWa.out.size))
    have HWK1 := Aside0.mk (fun W (hW : Below we.heap.size we W) => HWK.out W (HWwe.out.trans (hW.mono HWwe.out.size)))
    have hyl : Y1.length ≤ 4096 := by have := B.bytes_len ⟨b.origin, b.number, CL⟩; rw [HY.out] at this; exact this
    have hzl : Z1.length ≤ 4096 := by have := B.bytes_len ⟨b.origin, b.number, TL⟩; rw [HZ.out] at this; exact this
    have HYL := Aside0.mk hyl
    have HZL := Aside0.mk hzl
    obtain ⟨hpy, hpz, hpd⟩ := HPL.out
    clear HRB HRD HCd HBd HFd HFY HVd HW HWe hyl hzl b0 b1 b2 g0 g1 g2 e0 e1 e2 f0 f1 f2
    have HW := Aside0.mk (Below.refl we.heap.size we)
    rcases hpy with rfl | rfl
    · rcases hpz with rfl | rfl
      · have HPD := Aside0.mk (hpd rfl)
        clear hpd
        have hrY : B.read Y1 = (⟨b.origin, b.number, CL⟩, 0) := by
          have := B.read_bytes (b := ⟨b.origin, b.number, CL⟩) (by rw [HY.out])
          rw [HY.out] at this
          exact this.1
        have hrZ : B.read Z1 = (⟨b.origin, b.number, TL⟩, 0) := by
          have := B.read_bytes (b := ⟨b.origin, b.number, TL⟩) (by rw [HZ.out])
          rw [HZ.out] at this
          exact this.1
        have HRDY := Aside0.mk (fun W (hW : Below we.heap.size we W) => (show Calls Tryz.prog 15 #[.slice A7 Y1.length c7] W fun e w' => (∃ A c, e = .returned (.tuple #[.agg #[.int .i64 b.origin, .int .i64 b.number, .slice A b.mails.length c], .int .i64 0]) ∧ Bn w' ⟨b.origin, b.number, CL⟩ A c) ∧ Below W.heap.size W w' from (read_any W (HYe.out.on hW) (by have := HYL.out; omega) (HVe.out.go hW)).mono (by
          rintro e w' ⟨h, h2⟩
          unfold readPost at h
          rw [hrY] at h
          simp only [HCLl.out] at h
          exact ⟨h, h2⟩)))
        obtain ⟨N1, hN1⟩ : ∃ N1, N1 = TL.length := ⟨_, rfl⟩
        have hN1I : (N1 : Int) = (b.mails.length : Int) - 1 := by rw [hN1, HTL.out, List.length_drop]; omega
        have HRDZ := Aside0.mk (fun W (hW : Below we.heap.size we W) => (show Calls Tryz.prog 15 #[.slice A9 Z1.length c9] W fun e w' => (∃ A c, e = .returned (.tuple #[.agg #[.int .i64 b.origin, .int .i64 b.number, .slice A N1 c], .int .i64 0])) ∧ Below W.heap.size W w' from (read_any W (HFZ.out.on hW) (by have := HZL.out; omega) (HVe.out.go hW)).mono (by
          rintro e w' ⟨h, h2⟩
          unfold readPost at h
          rw [hrZ] at h
          simp only [← hN1] at h
          obtain ⟨A, c, h3, _⟩ := h
          exact ⟨⟨A, c, h3⟩, h2⟩)))
        have HKB := Aside0.mk (fun W (hW : Below we.heap.size we W) (A1 : Option Addr) (c1 : Nat) (hB : Bn W ⟨b.origin, b.number, CL⟩ A1 c1) => (show Calls Tryz.prog 22 #[.agg #[.int .i64 b.origin, .int .i64 b.number, .slice A1 b.mails.length c1], .agg #[.int .i64 b.origin, .int .i64 b.number, .slice (some ⟨h, 0, none⟩) b.mails.length cap]] W fun e w' => e = .returned (.bool true) ∧ Below W.heap.size W w' by
          have hf : B.FitB ⟨b.origin, b.number, CL⟩ := by rw [HCL.out]; exact HFS.out.1
          have h := kbundle_any ⟨b.origin, b.number, CL⟩ ⟨b.origin, b.number, CL⟩ A1 c1 (some ⟨h, 0, none⟩) cap W hB (HCe.out.on hW) hf hf
          rw [decide_eq_true (rfl : (⟨b.origin, b.number, CL⟩ : B.Bundle) = ⟨b.origin, b.number, CL⟩)] at h
          simp only [HCLl.out] at h
          exact h))
        obtain ⟨D, hD⟩ : ∃ D, D = decide (m0 = m1) := ⟨_, rfl⟩
        have HKT := Aside0.mk (fun W (hW : Below we.heap.size we W) => (show Calls Tryz.prog 21 #[.slice A5 X1.length c5, .slice A7 Y1.length c7] W fun e w' => e = .returned (.bool D) ∧ Below W.heap.size W w' by
          have h := kbytes_any (HXe.out.on hW) (HYe.out.on hW) (by omega) (by have := HYL.out; omega)
          rw [HPD.out, ← hD] at h
          exact h))
        obtain ⟨ad, A1, c1, A2, c2, rfl, hmc0, hml0⟩ := mail_at HBe.out.rd 0 h0n m0 HM0.out
        obtain ⟨ad', A3, c3, A4, c4, hade, hmc1, hml1⟩ := mail_at HBe.out.rd 1 h1n m1 HM1.out
        injection hade with hade
        subst hade
        have hf0 : B.Fit m0 := HFIT.out.ms _ (by rw [HM0.out]; exact getD_mem b.mails 0 h0n _)
        have hf1 : B.Fit m1 := HFIT.out.ms _ (by rw [HM1.out]; exact getD_mem b.mails 1 h1n _)
        have HKM := Aside0.mk (fun W (hW : Below we.heap.size we W) => (show Calls Tryz.prog 23 #[.agg #[.bool m0.frm.null, .string (str m0.frm.loc), .string (str m0.frm.dom), .slice A1 m0.to.length c1, .slice A2 m0.body.length c2, .bool m0.quiet, .string (str m0.helo), .int .i64 m0.tm], .agg #[.bool m1.frm.null, .string (str m1.frm.loc), .string (str m1.frm.dom), .slice A3 m1.to.length c3, .slice A4 m1.body.length c4, .bool m1.quiet, .string (str m1.helo), .int .i64 m1.tm]] W fun e w' => e = .returned (.bool D) ∧ Below W.heap.size W w' by
          have h := kmail_any m0 m1 A1 c1 A2 c2 A3 c3 A4 c4 W (hml0.on hW) (hml1.on hW) hf0 hf1
          rw [← hD] at h
          exact h))
        have HM0e := Aside0.mk hmc0
        have HM1e := Aside0.mk hmc1
        have hmx : (b.mails.length : Int) ≤ 1000 := by have := HFIT.out.n; omega
        have hwr : IntKind.i64.wrap ((b.mails.length : Int) - 1) = (b.mails.length : Int) - 1 := wrap_sub1 _ (by omega) hmx
        clear hrY hrZ hN1 hmc0 hmc1 hml0 hml1 hf0 hf1 hD
        go_upto_region 12 with (fail)
        go_cut [10, 11] (fun v10 v11 wf => ∃ (gp : Nat) (Ap : Option Addr) (cp : Nat), v10 = .pointer (some ⟨gp, 0, none⟩) ∧ v11 = .int .i64 0 ∧ Aside0 (wf.heap[gp]? = some (.cells #[.int .i64 b.origin, .int .i64 b.number, .slice Ap b.mails.length cp] 24 (0, 0))) ∧ Aside0 (Bn wf ⟨b.origin, b.number, CL⟩ Ap cp) ∧ Aside0 (Below we.heap.size we wf))
        case first =>
          go_wp2_with (first | (go_at_call 15; (with_reducible refine Calls.mono (HRDY.out _ (by first | exact HW.out | exact HW.out.alloc HW.out.size _)) ?_); rintro e wq ⟨⟨A12, c12, rfl, hbn⟩, h⟩; have hwN := (by first | exact HW.out.trans (h.mono HW.out.size) | exact (HW.out.alloc HW.out.size _).trans (h.mono (HW.out.alloc HW.out.size _).size) : Below we.heap.size we wq); have HB12 := Aside0.mk hbn; clear hbn; clear HW h; have HW := Aside0.mk hwN; clear hwN))
          go_meet
          case rel => exact ⟨wq.heap.size, A12, c12, rfl, rfl, ⟨heap_alloc_new _ _⟩, ⟨HB12.out.on ((Below.refl wq.heap.size wq).alloc (Nat.le_refl _) _)⟩, ⟨HW.out.alloc HW.out.size _⟩⟩
        case rest =>
        obtain ⟨gp, Ap, cp, rfl, rfl, HRP, HBP, HWp⟩ := hcut
        obtain ⟨wp, rfl⟩ : ∃ wz : World, wz = wc := ⟨_, rfl⟩
        apply_assumption
        have HRDZp := Aside0.mk (fun W (hW : Below wp.heap.size wp W) => HRDZ.out W (HWp.out.trans (hW.mono HWp.out.size)))
        clear HW
        have HW := Aside0.mk (Below.refl wp.heap.size wp)
        go_upto_region 13 with (fail)
        go_cut [12, 13] (fun v12 v13 wg => ∃ (gq : Nat) (Aq : Option Addr) (cq : Nat), v12 = .pointer (some ⟨gq, 0, none⟩) ∧ v13 = .int .i64 0 ∧ Aside0 (wg.heap[gq]? = some (.cells #[.int .i64 b.origin, .int .i64 b.number, .slice Aq N1 cq] 24 (0, 0))) ∧ Aside0 (Below wp.heap.size wp wg))
        case first =>
          go_wp2_with (first | (go_at_call 15; (with_reducible refine Calls.mono (HRDZp.out _ (by first | exact HW.out | exact HW.out.alloc HW.out.size _)) ?_); rintro e wq ⟨⟨A13, c13, rfl⟩, h⟩; have hwN := (by first | exact HW.out.trans (h.mono HW.out.size) | exact (HW.out.alloc HW.out.size _).trans (h.mono (HW.out.alloc HW.out.size _).size) : Below wp.heap.size wp wq); clear HW h; have HW := Aside0.mk hwN; clear hwN))
          go_meet
          case rel => exact ⟨wq.heap.size, A13, c13, rfl, rfl, ⟨heap_alloc_new _ _⟩, ⟨HW.out.alloc HW.out.size _⟩⟩
        case rest =>
        obtain ⟨gq, Aq, cq, rfl, rfl, HRQ, HWq⟩ := hcut
        obtain ⟨wg, rfl⟩ : ∃ wz : World, wz = wc := ⟨_, rfl⟩
        apply_assumption
        have HWeg := Aside0.mk (HWp.out.trans (HWq.out.mono HWp.out.size))
        have HRPg := Aside0.mk (row_on HWq.out HRP.out)
        have HRCg := Aside0.mk (row_on HWeg.out HRCe.out)
        have HRBg := Aside0.mk (row_on HWeg.out HRBe.out)
        have HBPg := Aside0.mk (HBP.out.on HWq.out)
        have HM0g := Aside0.mk (HM0e.out.on HWeg.out)
        have HM1g := Aside0.mk (HM1e.out.on HWeg.out)
        have HS14 := Aside0.mk (fun W (hW : Below wg.heap.size wg W) => s14 (row_on hW HRPg.out) (row_on hW HRCg.out) (row_on hW HRQ.out) (row_on hW HRBg.out) (HM0g.out.on hW) (HM1g.out.on hW))
        have HW14 := Aside0.mk (show Below wg.heap.size wg wg.drew from (Below.refl wg.heap.size wg).drew)
        go_upto_region 14 with (fail)
        refine wp_region_held_drew (S := (fun w' => w'.cell? ⟨gp, 0, none⟩ = some (.int .i64 b.origin) ∧ w'.cell? ⟨gp, 1, none⟩ = some (.int .i64 b.number) ∧ w'.cell? ⟨gp, 2, none⟩ = some (.slice Ap b.mails.length cp) ∧ w'.cell? ⟨g, 0, none⟩ = some (.int .i64 b.origin) ∧ w'.cell? ⟨g, 1, none⟩ = some (.int .i64 b.number) ∧ w'.cell? ⟨g, 2, none⟩ = some (.slice (some ⟨h, 0, none⟩) b.mails.length cap) ∧ w'.cell? ⟨gq, 2, none⟩ = some (.slice Aq N1 cq) ∧ w'.cell? ⟨w.heap.size, 2, none⟩ = some (.slice (some ad) b.mails.length c) ∧ w'.cell? ad = some (.bool m0.frm.null) ∧ w'.cell? ⟨ad.block, ad.off + 1, none⟩ = some (.string (str m0.frm.loc)) ∧ w'.cell? ⟨ad.block, ad.off + 2, none⟩ = some (.string (str m0.frm.dom)) ∧ w'.cell? ⟨ad.block, ad.off + 3, none⟩ = some (.slice A1 m0.to.length c1) ∧ w'.cell? ⟨ad.block, ad.off + 4, none⟩ = some (.slice A2 m0.body.length c2) ∧ w'.cell? ⟨ad.block, ad.off + 5, none⟩ = some (.bool m0.quiet) ∧ w'.cell? ⟨ad.block, ad.off + 6, none⟩ = some (.string (str m0.helo)) ∧ w'.cell? ⟨ad.block, ad.off + 7, none⟩ = some (.int .i64 m0.tm) ∧ w'.cell? ⟨ad.block, ad.off + 8, none⟩ = some (.bool m1.frm.null) ∧ w'.cell? ⟨ad.block, ad.off + 9, none⟩ = some (.string (str m1.frm.loc)) ∧ w'.cell? ⟨ad.block, ad.off + 10, none⟩ = some (.string (str m1.frm.dom)) ∧ w'.cell? ⟨ad.block, ad.off + 11, none⟩ = some (.slice A3 m1.to.length c3) ∧ w'.cell? ⟨ad.block, ad.off + 12, none⟩ = some (.slice A4 m1.body.length c4) ∧ w'.cell? ⟨ad.block, ad.off + 13, none⟩ = some (.bool m1.quiet) ∧ w'.cell? ⟨ad.block, ad.off + 14, none⟩ = some (.string (str m1.helo)) ∧ w'.cell? ⟨ad.block, ad.off + 15, none⟩ = some (.int .i64 m1.tm))) (by kernel_rfl) ?_ (fun hHeld => ?_)
        · first | (with_reducible exact HS14.out _ (Below.refl _ _).drew) | (with_reducible exact HS14.out _ HW14.out)
        refine wpAnyH_take (i := 0) (oi := _) (v := ?_) rfl (by kernel_rfl) (by kernel_rfl) (by kernel_rfl) (fun _ _ _ h => h) (Or.inl ⟨by rfl, ?_⟩) (by assumption) ?_
        case refine_2 => (intro w hSw; (try dsimp only [List.getElem_toArray, List.getElem_cons_zero, List.getElem_cons_succ] at hSw ⊢); go_simp; (try with_reducible rfl))
        try simp only [Act.put, List.getElem_toArray, List.getElem_cons_zero, List.getElem_cons_succ, List.setIfInBounds_toArray, List.set_cons_zero, List.set_cons_succ]
        refine wpAnyH_take (i := 1) (oi := _) (v := ?_) rfl (by kernel_rfl) (by kernel_rfl) (by kernel_rfl) (fun _ _ _ h => h) (Or.inl ⟨by rfl, ?_⟩) (by assumption) ?_
        case refine_2 => (intro w hSw; (try dsimp only [List.getElem_toArray, List.getElem_cons_zero, List.getElem_cons_succ] at hSw ⊢); go_simp; (try with_reducible rfl))
        try simp only [Act.put, List.getElem_toArray, List.getElem_cons_zero, List.getElem_cons_succ, List.setIfInBounds_toArray, List.set_cons_zero, List.set_cons_succ]
        refine wpAnyH_take (i := 2) (oi := _) (v := ?_) rfl (by kernel_rfl) (by kernel_rfl) (by kernel_rfl) (fun _ _ _ h => h) (Or.inl ⟨by rfl, ?_⟩) (by assumption) ?_
        case refine_2 => (intro w hSw; (try dsimp only [List.getElem_toArray, List.getElem_cons_zero, List.getElem_cons_succ] at hSw ⊢); go_simp; (try with_reducible rfl))
        try simp only [Act.put, List.getElem_toArray, List.getElem_cons_zero, List.getElem_cons_succ, List.setIfInBounds_toArray, List.set_cons_zero, List.set_cons_succ]
        refine wpAnyH_take (i := 3) (oi := _) (v := ?_) rfl (by kernel_rfl) (by kernel_rfl) (by kernel_rfl) (fun _ _ _ h => h) (Or.inl ⟨by rfl, ?_⟩) (by assumption) ?_
        case refine_2 => (intro w hSw; (try dsimp only [List.getElem_toArray, List.getElem_cons_zero, List.getElem_cons_succ] at hSw ⊢); go_simp; (try with_reducible rfl))
        try simp only [Act.put, List.getElem_toArray, List.getElem_cons_zero, List.getElem_cons_succ, List.setIfInBounds_toArray, List.set_cons_zero, List.set_cons_succ]
        refine wpAnyH_take (i := 4) (oi := _) (v := ?_) rfl (by kernel_rfl) (by kernel_rfl) (by kernel_rfl) (fun _ _ _ h => h) (Or.inl ⟨by rfl, ?_⟩) (by assumption) ?_
        case refine_2 => (intro w hSw; (try dsimp only [List.getElem_toArray, List.getElem_cons_zero, List.getElem_cons_succ] at hSw ⊢); go_simp; (try with_reducible rfl))
        try simp only [Act.put, List.getElem_toArray, List.getElem_cons_zero, List.getElem_cons_succ, List.setIfInBounds_toArray, List.set_cons_zero, List.set_cons_succ]
        refine wpAnyH_take (i := 5) (oi := _) (v := ?_) rfl (by kernel_rfl) (by kernel_rfl) (by kernel_rfl) (fun _ _ _ h => h) (Or.inl ⟨by rfl, ?_⟩) (by assumption) ?_
        case refine_2 => (intro w hSw; (try dsimp only [List.getElem_toArray, List.getElem_cons_zero, List.getElem_cons_succ] at hSw ⊢); go_simp; (try with_reducible rfl))
        try simp only [Act.put, List.getElem_toArray, List.getElem_cons_zero, List.getElem_cons_succ, List.setIfInBounds_toArray, List.set_cons_zero, List.set_cons_succ]
        refine wpAnyH_take (i := 6) (oi := _) (v := ?_) rfl (by kernel_rfl) (by kernel_rfl) (by kernel_rfl) (fun _ _ _ h => h) (Or.inl ⟨by rfl, ?_⟩) (by assumption) ?_
        case refine_2 => (intro w hSw; (try dsimp only [List.getElem_toArray, List.getElem_cons_zero, List.getElem_cons_succ] at hSw ⊢); go_simp; (try with_reducible rfl))
        try simp only [Act.put, List.getElem_toArray, List.getElem_cons_zero, List.getElem_cons_succ, List.setIfInBounds_toArray, List.set_cons_zero, List.set_cons_succ]
        refine wpAnyH_take (i := 7) (oi := _) (v := ?_) rfl (by kernel_rfl) (by kernel_rfl) (by kernel_rfl) (fun _ _ _ h => h) (Or.inl ⟨by rfl, ?_⟩) (by assumption) ?_
        case refine_2 => (intro w hSw; (try dsimp only [List.getElem_toArray, List.getElem_cons_zero, List.getElem_cons_succ] at hSw ⊢); go_simp; (try with_reducible rfl))
        try simp only [Act.put, List.getElem_toArray, List.getElem_cons_zero, List.getElem_cons_succ, List.setIfInBounds_toArray, List.set_cons_zero, List.set_cons_succ]
        refine wpAnyH_take (i := 8) (oi := _) (v := ?_) rfl (by kernel_rfl) (by kernel_rfl) (by kernel_rfl) (fun _ _ _ h => h) (Or.inl ⟨by rfl, ?_⟩) (by assumption) ?_
        case refine_2 => (intro w hSw; (try dsimp only [List.getElem_toArray, List.getElem_cons_zero, List.getElem_cons_succ] at hSw ⊢); go_simp; (try with_reducible rfl))
        try simp only [Act.put, List.getElem_toArray, List.getElem_cons_zero, List.getElem_cons_succ, List.setIfInBounds_toArray, List.set_cons_zero, List.set_cons_succ]
        refine wpAnyH_ready (rs := [9]) (by kernel_rfl) (by simp) ?_
        refine (AllReadyH.cons (o := _) (by simp only [List.getElem?_toArray, List.getElem?_cons_zero, List.getElem?_cons_succ]; rfl) (fun K hK => ?_) AllReadyH.nil)
        go_simp
        go_at_call 22
        (with_reducible refine Calls.mono (HKB.out _ (HWeg.out.trans (HW14.out.mono HWeg.out.size)) _ _ (HBPg.out.on HW14.out)) ?_)
        rintro e wn ⟨rfl, h⟩
        have HWn := Aside0.mk (HW14.out.trans (h.mono HW14.out.size))
        clear HW14 h
        obtain ⟨wm, rfl⟩ : ∃ wz : World, wz = wn := ⟨_, rfl⟩
        have HW14 := Aside0.mk HWn.out
        clear HWn
        go_wp2_with (fail)
        refine hK.out _ _ ?_ (fun hHeld2 => ?_)
        · first | (with_reducible exact HS14.out _ (Below.refl _ _).drew) | (with_reducible exact HS14.out _ HW14.out)
        clear hK K hHeld
        have hHeld := hHeld2
        clear hHeld2
        try simp only [Act.put, List.getElem_toArray, List.getElem_cons_zero, List.getElem_cons_succ, List.setIfInBounds_toArray, List.set_cons_zero, List.set_cons_succ]
        refine wpAnyH_take (i := 10) (oi := _) (v := ?_) rfl (by kernel_rfl) (by kernel_rfl) (by kernel_rfl) (fun _ _ _ h => h) (Or.inl ⟨by rfl, ?_⟩) (by assumption) ?_
        case refine_2 => (intro w hSw; (try dsimp only [List.getElem_toArray, List.getElem_cons_zero, List.getElem_cons_succ] at hSw ⊢); go_simp; (try with_reducible rfl))
        try simp only [Act.put, List.getElem_toArray, List.getElem_cons_zero, List.getElem_cons_succ, List.setIfInBounds_toArray, List.set_cons_zero, List.set_cons_succ]
        refine wpAnyH_take (i := 11) (oi := _) (v := ?_) rfl (by kernel_rfl) (by kernel_rfl) (by kernel_rfl) (fun _ _ _ h => h) (Or.inl ⟨by rfl, ?_⟩) (by assumption) ?_
        case refine_2 => (intro w hSw; (try dsimp only [List.getElem_toArray, List.getElem_cons_zero, List.getElem_cons_succ] at hSw ⊢); go_simp; (try with_reducible rfl))
        try simp only [Act.put, List.getElem_toArray, List.getElem_cons_zero, List.getElem_cons_succ, List.setIfInBounds_toArray, List.set_cons_zero, List.set_cons_succ]
        refine wpAnyH_take (i := 12) (oi := _) (v := ?_) rfl (by kernel_rfl) (by kernel_rfl) (by kernel_rfl) (fun _ _ _ h => h) (Or.inl ⟨by rfl, ?_⟩) (by assumption) ?_
        case refine_2 => (intro w hSw; (try dsimp only [List.getElem_toArray, List.getElem_cons_zero, List.getElem_cons_succ] at hSw ⊢); go_simp; (try with_reducible rfl))
        try simp only [Act.put, List.getElem_toArray, List.getElem_cons_zero, List.getElem_cons_succ, List.setIfInBounds_toArray, List.set_cons_zero, List.set_cons_succ]
        refine wpAnyH_take (i := 13) (oi := _) (v := ?_) rfl (by kernel_rfl) (by kernel_rfl) (by kernel_rfl) (fun _ _ _ h => h) (Or.inl ⟨by rfl, ?_⟩) (by assumption) ?_
        case refine_2 => (intro w hSw; (try dsimp only [List.getElem_toArray, List.getElem_cons_zero, List.getElem_cons_succ] at hSw ⊢); go_simp; (try with_reducible rfl))
        try simp only [Act.put, List.getElem_toArray, List.getElem_cons_zero, List.getElem_cons_succ, List.setIfInBounds_toArray, List.set_cons_zero, List.set_cons_succ]
        refine wpAnyH_take (i := 14) (oi := _) (v := ?_) rfl (by kernel_rfl) (by kernel_rfl) (by kernel_rfl) (fun _ _ _ h => h) (Or.inl ⟨by rfl, ?_⟩) (by assumption) ?_
        case refine_2 => (intro w hSw; (try dsimp only [List.getElem_toArray, List.getElem_cons_zero, List.getElem_cons_succ] at hSw ⊢); go_simp; (try with_reducible rfl))
        try simp only [Act.put, List.getElem_toArray, List.getElem_cons_zero, List.getElem_cons_succ, List.setIfInBounds_toArray, List.set_cons_zero, List.set_cons_succ]
        refine wpAnyH_take (i := 15) (oi := _) (v := ?_) rfl (by kernel_rfl) (by kernel_rfl) (by kernel_rfl) (fun _ _ _ h => h) (Or.inl ⟨by rfl, ?_⟩) (by assumption) ?_
        case refine_2 => (intro w hSw; (try dsimp only [List.getElem_toArray, List.getElem_cons_zero, List.getElem_cons_succ] at hSw ⊢); go_simp; (try with_reducible rfl))
        try simp only [Act.put, List.getElem_toArray, List.getElem_cons_zero, List.getElem_cons_succ, List.setIfInBounds_toArray, List.set_cons_zero, List.set_cons_succ]
        refine wpAnyH_take (i := 16) (oi := _) (v := ?_) rfl (by kernel_rfl) (by kernel_rfl) (by kernel_rfl) (fun _ _ _ h => h) (Or.inl ⟨by rfl, ?_⟩) (by assumption) ?_
        case refine_2 => (intro w hSw; (try dsimp only [List.getElem_toArray, List.getElem_cons_zero, List.getElem_cons_succ] at hSw ⊢); go_simp; (try with_reducible rfl))
        try simp only [Act.put, List.getElem_toArray, List.getElem_cons_zero, List.getElem_cons_succ, List.setIfInBounds_toArray, List.set_cons_zero, List.set_cons_succ]
        refine wpAnyH_take (i := 17) (oi := _) (v := ?_) rfl (by kernel_rfl) (by kernel_rfl) (by kernel_rfl) (fun _ _ _ h => h) (Or.inl ⟨by rfl, ?_⟩) (by assumption) ?_
        case refine_2 => (intro w hSw; (try dsimp only [List.getElem_toArray, List.getElem_cons_zero, List.getElem_cons_succ] at hSw ⊢); go_simp; (try with_reducible rfl))
        try simp only [Act.put, List.getElem_toArray, List.getElem_cons_zero, List.getElem_cons_succ, List.setIfInBounds_toArray, List.set_cons_zero, List.set_cons_succ]
        refine wpAnyH_take (i := 18) (oi := _) (v := ?_) rfl (by kernel_rfl) (by kernel_rfl) (by kernel_rfl) (fun _ _ _ h => h) (Or.inl ⟨by rfl, ?_⟩) (by assumption) ?_
        case refine_2 => (intro w hSw; (try dsimp only [List.getElem_toArray, List.getElem_cons_zero, List.getElem_cons_succ] at hSw ⊢); go_simp; (try with_reducible rfl))
        try simp only [Act.put, List.getElem_toArray, List.getElem_cons_zero, List.getElem_cons_succ, List.setIfInBounds_toArray, List.set_cons_zero, List.set_cons_succ]
        refine wpAnyH_take (i := 19) (oi := _) (v := ?_) rfl (by kernel_rfl) (by kernel_rfl) (by kernel_rfl) (fun _ _ _ h => h) (Or.inl ⟨by rfl, ?_⟩) (by assumption) ?_
        case refine_2 => (intro w hSw; (try dsimp only [List.getElem_toArray, List.getElem_cons_zero, List.getElem_cons_succ] at hSw ⊢); go_simp; (try with_reducible rfl))
        try simp only [Act.put, List.getElem_toArray, List.getElem_cons_zero, List.getElem_cons_succ, List.setIfInBounds_toArray, List.set_cons_zero, List.set_cons_succ]
        refine wpAnyH_take (i := 20) (oi := _) (v := ?_) rfl (by kernel_rfl) (by kernel_rfl) (by kernel_rfl) (fun _ _ _ h => h) (Or.inl ⟨by rfl, ?_⟩) (by assumption) ?_
        case refine_2 => (intro w hSw; (try dsimp only [List.getElem_toArray, List.getElem_cons_zero, List.getElem_cons_succ] at hSw ⊢); go_simp; (try with_reducible rfl))
        try simp only [Act.put, List.getElem_toArray, List.getElem_cons_zero, List.getElem_cons_succ, List.setIfInBounds_toArray, List.set_cons_zero, List.set_cons_succ]
        refine wpAnyH_take (i := 21) (oi := _) (v := ?_) rfl (by kernel_rfl) (by kernel_rfl) (by kernel_rfl) (fun _ _ _ h => h) (Or.inl ⟨by rfl, ?_⟩) (by assumption) ?_
        case refine_2 => (intro w hSw; (try dsimp only [List.getElem_toArray, List.getElem_cons_zero, List.getElem_cons_succ] at hSw ⊢); go_simp; (try with_reducible rfl))
        try simp only [Act.put, List.getElem_toArray, List.getElem_cons_zero, List.getElem_cons_succ, List.setIfInBounds_toArray, List.set_cons_zero, List.set_cons_succ]
        refine wpAnyH_take (i := 22) (oi := _) (v := ?_) rfl (by kernel_rfl) (by kernel_rfl) (by kernel_rfl) (fun _ _ _ h => h) (Or.inl ⟨by rfl, ?_⟩) (by assumption) ?_
        case refine_2 => (intro w hSw; (try dsimp only [List.getElem_toArray, List.getElem_cons_zero, List.getElem_cons_succ] at hSw ⊢); go_simp; (try with_reducible rfl))
        try simp only [Act.put, List.getElem_toArray, List.getElem_cons_zero, List.getElem_cons_succ, List.setIfInBounds_toArray, List.set_cons_zero, List.set_cons_succ]
        refine wpAnyH_take (i := 23) (oi := _) (v := ?_) rfl (by kernel_rfl) (by kernel_rfl) (by kernel_rfl) (fun _ _ _ h => h) (Or.inl ⟨by rfl, ?_⟩) (by assumption) ?_
        case refine_2 => (intro w hSw; (try dsimp only [List.getElem_toArray, List.getElem_cons_zero, List.getElem_cons_succ] at hSw ⊢); go_simp; (try with_reducible rfl))
        try simp only [Act.put, List.getElem_toArray, List.getElem_cons_zero, List.getElem_cons_succ, List.setIfInBounds_toArray, List.set_cons_zero, List.set_cons_succ]
        refine wpAnyH_take (i := 25) (oi := _) (v := ?_) rfl (by kernel_rfl) (by kernel_rfl) (by kernel_rfl) (fun _ _ _ h => h) (Or.inl ⟨by rfl, ?_⟩) (by assumption) ?_
        case refine_2 => (intro w hSw; (try dsimp only [List.getElem_toArray, List.getElem_cons_zero, List.getElem_cons_succ] at hSw ⊢); go_simp; (try with_reducible rfl))
        try simp only [Act.put, List.getElem_toArray, List.getElem_cons_zero, List.getElem_cons_succ, List.setIfInBounds_toArray, List.set_cons_zero, List.set_cons_succ]
        refine wpAnyH_take (i := 26) (oi := _) (v := ?_) rfl (by kernel_rfl) (by kernel_rfl) (by kernel_rfl) (fun _ _ _ h => h) (Or.inl ⟨by rfl, ?_⟩) (by assumption) ?_
        case refine_2 => (intro w hSw; (try dsimp only [List.getElem_toArray, List.getElem_cons_zero, List.getElem_cons_succ] at hSw ⊢); go_simp; (try with_reducible rfl))
        try simp only [Act.put, List.getElem_toArray, List.getElem_cons_zero, List.getElem_cons_succ, List.setIfInBounds_toArray, List.set_cons_zero, List.set_cons_succ]
        refine wpAnyH_take (i := 27) (oi := _) (v := ?_) rfl (by kernel_rfl) (by kernel_rfl) (by kernel_rfl) (fun _ _ _ h => h) (Or.inl ⟨by rfl, ?_⟩) (by assumption) ?_
        case refine_2 => (intro w hSw; (try dsimp only [List.getElem_toArray, List.getElem_cons_zero, List.getElem_cons_succ] at hSw ⊢); go_simp; (try with_reducible rfl))
        try simp only [Act.put, List.getElem_toArray, List.getElem_cons_zero, List.getElem_cons_succ, List.setIfInBounds_toArray, List.set_cons_zero, List.set_cons_succ]
        refine wpAnyH_take (i := 28) (oi := _) (v := ?_) rfl (by kernel_rfl) (by kernel_rfl) (by kernel_rfl) (fun _ _ _ h => h) (Or.inl ⟨by rfl, ?_⟩) (by assumption) ?_
        case refine_2 => (intro w hSw; (try dsimp only [List.getElem_toArray, List.getElem_cons_zero, List.getElem_cons_succ] at hSw ⊢); go_simp; (try with_reducible rfl))
        try simp only [Act.put, List.getElem_toArray, List.getElem_cons_zero, List.getElem_cons_succ, List.setIfInBounds_toArray, List.set_cons_zero, List.set_cons_succ]
        refine wpAnyH_take (i := 29) (oi := _) (v := ?_) rfl (by kernel_rfl) (by kernel_rfl) (by kernel_rfl) (fun _ _ _ h => h) (Or.inl ⟨by rfl, ?_⟩) (by assumption) ?_
        case refine_2 => (intro w hSw; (try dsimp only [List.getElem_toArray, List.getElem_cons_zero, List.getElem_cons_succ] at hSw ⊢); go_simp; (try with_reducible rfl))
        try simp only [Act.put, List.getElem_toArray, List.getElem_cons_zero, List.getElem_cons_succ, List.setIfInBounds_toArray, List.set_cons_zero, List.set_cons_succ]
        refine wpAnyH_take (i := 30) (oi := _) (v := ?_) rfl (by kernel_rfl) (by kernel_rfl) (by kernel_rfl) (fun _ _ _ h => h) (Or.inl ⟨by rfl, ?_⟩) (by assumption) ?_
        case refine_2 => (intro w hSw; (try dsimp only [List.getElem_toArray, List.getElem_cons_zero, List.getElem_cons_succ] at hSw ⊢); go_simp; (try with_reducible rfl))
        try simp only [Act.put, List.getElem_toArray, List.getElem_cons_zero, List.getElem_cons_succ, List.setIfInBounds_toArray, List.set_cons_zero, List.set_cons_succ]
        refine wpAnyH_take (i := 31) (oi := _) (v := ?_) rfl (by kernel_rfl) (by kernel_rfl) (by kernel_rfl) (fun _ _ _ h => h) (Or.inl ⟨by rfl, ?_⟩) (by assumption) ?_
        case refine_2 => (intro w hSw; (try dsimp only [List.getElem_toArray, List.getElem_cons_zero, List.getElem_cons_succ] at hSw ⊢); go_simp; (try with_reducible rfl))
        try simp only [Act.put, List.getElem_toArray, List.getElem_cons_zero, List.getElem_cons_succ, List.setIfInBounds_toArray, List.set_cons_zero, List.set_cons_succ]
        refine wpAnyH_take (i := 32) (oi := _) (v := ?_) rfl (by kernel_rfl) (by kernel_rfl) (by kernel_rfl) (fun _ _ _ h => h) (Or.inl ⟨by rfl, ?_⟩) (by assumption) ?_
        case refine_2 => (intro w hSw; (try dsimp only [List.getElem_toArray, List.getElem_cons_zero, List.getElem_cons_succ] at hSw ⊢); go_simp; (try with_reducible rfl))
        try simp only [Act.put, List.getElem_toArray, List.getElem_cons_zero, List.getElem_cons_succ, List.setIfInBounds_toArray, List.set_cons_zero, List.set_cons_succ]
        refine wpAnyH_ready (rs := [24]) (by kernel_rfl) (by simp) ?_
        refine (AllReadyH.cons (o := _) (by simp only [List.getElem?_toArray, List.getElem?_cons_zero, List.getElem?_cons_succ]; rfl) (fun K hK => ?_) AllReadyH.nil)
        go_simp
        go_at_call 21
        (with_reducible refine Calls.mono (HKT.out _ (HWeg.out.trans (HW14.out.mono HWeg.out.size))) ?_)
        rintro e wn ⟨rfl, h⟩
        have HWn := Aside0.mk (HW14.out.trans (h.mono HW14.out.size))
        clear HW14 h
        obtain ⟨wm, rfl⟩ : ∃ wz : World, wz = wn := ⟨_, rfl⟩
        have HW14 := Aside0.mk HWn.out
        clear HWn
        go_wp2_with (fail)
        refine hK.out _ _ ?_ (fun hHeld2 => ?_)
        · first | (with_reducible exact HS14.out _ (Below.refl _ _).drew) | (with_reducible exact HS14.out _ HW14.out)
        clear hK K hHeld
        have hHeld := hHeld2
        clear hHeld2
        try simp only [Act.put, List.getElem_toArray, List.getElem_cons_zero, List.getElem_cons_succ, List.setIfInBounds_toArray, List.set_cons_zero, List.set_cons_succ]
        refine wpAnyH_ready (rs := [33]) (by kernel_rfl) (by simp) ?_
        refine (AllReadyH.cons (o := _) (by simp only [List.getElem?_toArray, List.getElem?_cons_zero, List.getElem?_cons_succ]; rfl) (fun K hK => ?_) AllReadyH.nil)
        go_simp
        go_at_call 23
        (with_reducible refine Calls.mono (HKM.out _ (HWeg.out.trans (HW14.out.mono HWeg.out.size))) ?_)
        rintro e wn ⟨rfl, h⟩
        have HWn := Aside0.mk (HW14.out.trans (h.mono HW14.out.size))
        clear HW14 h
        obtain ⟨wm, rfl⟩ : ∃ wz : World, wz = wn := ⟨_, rfl⟩
        have HW14 := Aside0.mk HWn.out
        clear HWn
        go_wp2_with (fail)
        refine hK.out _ _ ?_ (fun hHeld2 => ?_)
        · first | (with_reducible exact HS14.out _ (Below.refl _ _).drew) | (with_reducible exact HS14.out _ HW14.out)
        clear hK K hHeld
        have hHeld := hHeld2
        clear hHeld2
        try simp only [Act.put, List.getElem_toArray, List.getElem_cons_zero, List.getElem_cons_succ, List.setIfInBounds_toArray, List.set_cons_zero, List.set_cons_succ]
        refine wpAnyH_take (i := 34) (oi := _) (v := ?_) rfl (by kernel_rfl) (by kernel_rfl) (by kernel_rfl) (fun _ _ _ h => h) (Or.inl ⟨by rfl, ?_⟩) (by assumption) ?_
        case refine_2 => (intro w hSw; (try dsimp only [List.getElem_toArray, List.getElem_cons_zero, List.getElem_cons_succ] at hSw ⊢); go_simp; (try with_reducible rfl))
        try simp only [Act.put, List.getElem_toArray, List.getElem_cons_zero, List.getElem_cons_succ, List.setIfInBounds_toArray, List.set_cons_zero, List.set_cons_succ]
        refine wpAnyH_take (i := 35) (oi := _) (v := ?_) rfl (by kernel_rfl) (by kernel_rfl) (by kernel_rfl) (fun _ _ _ h => h) (Or.inl ⟨by rfl, ?_⟩) (by assumption) ?_
        case refine_2 => (intro w hSw; (try dsimp only [List.getElem_toArray, List.getElem_cons_zero, List.getElem_cons_succ] at hSw ⊢); go_simp; (try with_reducible rfl))
        try simp only [Act.put, List.getElem_toArray, List.getElem_cons_zero, List.getElem_cons_succ, List.setIfInBounds_toArray, List.set_cons_zero, List.set_cons_succ]
        refine wpAnyH_take (i := 36) (oi := _) (v := ?_) rfl (by kernel_rfl) (by kernel_rfl) (by kernel_rfl) (fun _ _ _ h => h) (Or.inl ⟨by rfl, ?_⟩) (by assumption) ?_
        case refine_2 => (intro w hSw; (try dsimp only [List.getElem_toArray, List.getElem_cons_zero, List.getElem_cons_succ] at hSw ⊢); go_simp; (try with_reducible rfl))
        try simp only [Act.put, List.getElem_toArray, List.getElem_cons_zero, List.getElem_cons_succ, List.setIfInBounds_toArray, List.set_cons_zero, List.set_cons_succ]
        refine wpAnyH_ready (rs := [37]) (by kernel_rfl) (by simp) ?_
        refine (AllReadyH.cons (o := _) (by simp only [List.getElem?_toArray, List.getElem?_cons_zero, List.getElem?_cons_succ]; rfl) (fun K hK => ?_) AllReadyH.nil)
        go_simp
        go_at_call 25
        (with_reducible refine Calls.mono (HWK1.out _ (HWeg.out.trans (HW14.out.mono HWeg.out.size))) ?_)
        rintro e wn ⟨rfl, h⟩
        have HWn := Aside0.mk (HW14.out.trans (h.mono HW14.out.size))
        clear HW14 h
        obtain ⟨wm, rfl⟩ : ∃ wz : World, wz = wn := ⟨_, rfl⟩
        have HW14 := Aside0.mk HWn.out
        clear HWn
        go_wp2_with (fail)
        refine hK.out _ _ ?_ (fun hHeld2 => ?_)
        · first | (with_reducible exact HS14.out _ (Below.refl _ _).drew) | (with_reducible exact HS14.out _ HW14.out)
        clear hK K hHeld
        have hHeld := hHeld2
        clear hHeld2
        try simp only [Act.put, List.getElem_toArray, List.getElem_cons_zero, List.getElem_cons_succ, List.setIfInBounds_toArray, List.set_cons_zero, List.set_cons_succ]
        refine wpAnyH_take (i := 38) (oi := _) (v := ?_) rfl (by kernel_rfl) (by kernel_rfl) (by kernel_rfl) (fun _ _ _ h => h) (Or.inl ⟨by rfl, ?_⟩) (by assumption) ?_
        case refine_2 => (intro w hSw; (try dsimp only [List.getElem_toArray, List.getElem_cons_zero, List.getElem_cons_succ] at hSw ⊢); go_simp; (try with_reducible rfl))
        try simp only [Act.put, List.getElem_toArray, List.getElem_cons_zero, List.getElem_cons_succ, List.setIfInBounds_toArray, List.set_cons_zero, List.set_cons_succ]
        refine wpAnyH_take (i := 39) (oi := _) (v := ?_) rfl (by kernel_rfl) (by kernel_rfl) (by kernel_rfl) (fun _ _ _ h => h) (Or.inl ⟨by rfl, ?_⟩) (by assumption) ?_
        case refine_2 => (intro w hSw; (try dsimp only [List.getElem_toArray, List.getElem_cons_zero, List.getElem_cons_succ] at hSw ⊢); go_simp; (try with_reducible rfl))
        try simp only [Act.put, List.getElem_toArray, List.getElem_cons_zero, List.getElem_cons_succ, List.setIfInBounds_toArray, List.set_cons_zero, List.set_cons_succ]
        refine wpAnyH_done (by kernel_rfl) ?_ _
        go_wp2_with (fail)
        go_ret
        exact ⟨rfl, HWwe.out.trans ((HWeg.out.trans (HW14.out.mono HWeg.out.size)).mono HWwe.out.size)⟩
      · clear hpd
        go_wp2_with (first | (go_at_call 25; (with_reducible refine Calls.mono (HWK1.out _ (by first | exact HW.out | exact HW.out.alloc HW.out.size _)) ?_); rintro e wq ⟨rfl, h⟩; have hwN := (by first | exact HW.out.trans (h.mono HW.out.size) | exact (HW.out.alloc HW.out.size _).trans (h.mono (HW.out.alloc HW.out.size _).size) : Below we.heap.size we wq); clear HW h; have HW := Aside0.mk hwN; clear hwN))
        all_goals
          go_ret
          exact ⟨rfl, HWwe.out.trans (HW.out.mono HWwe.out.size)⟩
    · clear hpd
      rcases hpz with rfl | rfl
      · go_wp2_with (first | (go_at_call 25; (with_reducible refine Calls.mono (HWK1.out _ (by first | exact HW.out | exact HW.out.alloc HW.out.size _)) ?_); rintro e wq ⟨rfl, h⟩; have hwN := (by first | exact HW.out.trans (h.mono HW.out.size) | exact (HW.out.alloc HW.out.size _).trans (h.mono (HW.out.alloc HW.out.size _).size) : Below we.heap.size we wq); clear HW h; have HW := Aside0.mk hwN; clear hwN))
        all_goals
          go_ret
          exact ⟨rfl, HWwe.out.trans (HW.out.mono HWwe.out.size)⟩
      · go_wp2_with (first | (go_at_call 25; (with_reducible refine Calls.mono (HWK1.out _ (by first | exact HW.out | exact HW.out.alloc HW.out.size _)) ?_); rintro e wq ⟨rfl, h⟩; have hwN := (by first | exact HW.out.trans (h.mono HW.out.size) | exact (HW.out.alloc HW.out.size _).trans (h.mono (HW.out.alloc HW.out.size _).size) : Below we.heap.size we wq); clear HW h; have HW := Aside0.mk hwN; clear hwN))
        all_goals
          go_ret
          exact ⟨rfl, HWwe.out.trans (HW.out.mono HWwe.out.size)⟩
  · have hcs : (X2 = 0 ∧ b.mails.length < 2) ∨ (X2 = 2 ∧ X1 = []) ∨ (X2 = 5 ∧ X1 = []) := by
      rcases HCODE.out with h | h | h
      · left
        have h' : X2 = 0 := h
        exact ⟨h', by omega⟩
      · exact Or.inr (Or.inl ⟨h.1, h.2.1⟩)
      · exact Or.inr (Or.inr ⟨h.1, h.2.1⟩)
    rcases hcs with ⟨rfl, hlt⟩ | ⟨rfl, rfl⟩ | ⟨rfl, rfl⟩
    · have hltI : (b.mails.length : Int) < 2 := by omega
      have t1 : decide ((b.mails.length : Int) < 2) = true := by simp; omega
      have t2 : decide (b.mails.length < 2) = true := by simp; omega
      clear hA
      go_enter Tryz.func9, Tryz.ntmps9
      go_upto_region 1 with (fail)
      rw [← HW0.out]
      obtain ⟨b0, b1, b2, g0, g1, g2⟩ := cells3 HR.out
      go_wp2_with (first | (go_at_call 10; (with_reducible refine Calls.mono (HHV.out _ (HW0B.out.trans (HW.out.mono HW0B.out.size))) ?_); rintro e wq ⟨⟨r, rfl, hr⟩, h⟩; have hwN := (by first | exact HW.out.trans (h.mono HW.out.size) | exact (HW.out.alloc HW.out.size _).trans (h.mono (HW.out.alloc HW.out.size _).size) : Below w0.heap.size w0 wq); have HL := Aside0.mk hr; clear hr; clear HW h; have HW := Aside0.mk hwN; (try clear b0 b1 b2 g0 g1 g2 bne bd0 bd1 bd2); obtain ⟨b0, b1, b2, g0, g1, g2⟩ := cells3 (row_on hwN HR.out); have bne := Nat.ne_of_lt (Array.getElem?_eq_some_iff.1 (row_on hwN HR.out)).1; have bd0 := fun o => (cells3 (row_on (hwN.alloc hwN.size o) HR.out)).1; have bd1 := fun o => (cells3 (row_on (hwN.alloc hwN.size o) HR.out)).2.1; have bd2 := fun o => (cells3 (row_on (hwN.alloc hwN.size o) HR.out)).2.2.1; clear hwN; cases r) | (go_at_call 13; (with_reducible refine Calls.mono (HBY.out (heavy_fit (HL.out (by trivial))) _ (HW0B.out.trans ((by first | exact HW.out | exact HW.out.alloc HW.out.size _ : Below w0.heap.size w0 _).mono HW0B.out.size))) ?_); rintro e wq ⟨⟨A5, c5, rfl, hfr⟩, h⟩; have hwN := (by first | exact HW.out.trans (h.mono HW.out.size) | exact (HW.out.alloc HW.out.size _).trans (h.mono (HW.out.alloc HW.out.size _).size) : Below w0.heap.size w0 wq); have HF := Aside0.mk hfr.bt; clear hfr; clear HW h; have HW := Aside0.mk hwN; (try clear b0 b1 b2 g0 g1 g2 bne bd0 bd1 bd2); obtain ⟨b0, b1, b2, g0, g1, g2⟩ := cells3 (row_on hwN HR.out); have bne := Nat.ne_of_lt (Array.getElem?_eq_some_iff.1 (row_on hwN HR.out)).1; have bd0 := fun o => (cells3 (row_on (hwN.alloc hwN.size o) HR.out)).1; have bd1 := fun o => (cells3 (row_on (hwN.alloc hwN.size o) HR.out)).2.1; have bd2 := fun o => (cells3 (row_on (hwN.alloc hwN.size o) HR.out)).2.2.1; clear hwN) | (go_at_call 25; (with_reducible refine Calls.mono (HWK.out _ (HW0B.out.trans ((by first | exact HW.out | exact HW.out.alloc HW.out.size _ : Below w0.heap.size w0 _).mono HW0B.out.size))) ?_); rintro e wq ⟨rfl, h⟩; have hwN := (by first | exact HW.out.trans (h.mono HW.out.size) | exact (HW.out.alloc HW.out.size _).trans (h.mono (HW.out.alloc HW.out.size _).size) : Below w0.heap.size w0 wq); clear HW h; have HW := Aside0.mk hwN; (try clear b0 b1 b2 g0 g1 g2 bne bd0 bd1 bd2); obtain ⟨b0, b1, b2, g0, g1, g2⟩ := cells3 (row_on hwN HR.out); have bne := Nat.ne_of_lt (Array.getElem?_eq_some_iff.1 (row_on hwN HR.out)).1; have bd0 := fun o => (cells3 (row_on (hwN.alloc hwN.size o) HR.out)).1; have bd1 := fun o => (cells3 (row_on (hwN.alloc hwN.size o) HR.out)).2.1; have bd2 := fun o => (cells3 (row_on (hwN.alloc hwN.size o) HR.out)).2.2.1; clear hwN))
      all_goals
        go_ret
        exact ⟨rfl, HW0B.out.trans (HW.out.mono HW0B.out.size)⟩
    · clear hA hxlI
      go_enter Tryz.func9, Tryz.ntmps9
      go_upto_region 1 with (fail)
      rw [← HW0.out]
      obtain ⟨b0, b1, b2, g0, g1, g2⟩ := cells3 HR.out
      go_wp2_with (first | (go_at_call 10; (with_reducible refine Calls.mono (HHV.out _ (HW0B.out.trans (HW.out.mono HW0B.out.size))) ?_); rintro e wq ⟨⟨r, rfl, hr⟩, h⟩; have hwN := (by first | exact HW.out.trans (h.mono HW.out.size) | exact (HW.out.alloc HW.out.size _).trans (h.mono (HW.out.alloc HW.out.size _).size) : Below w0.heap.size w0 wq); have HL := Aside0.mk hr; clear hr; clear HW h; have HW := Aside0.mk hwN; (try clear b0 b1 b2 g0 g1 g2 bne bd0 bd1 bd2); obtain ⟨b0, b1, b2, g0, g1, g2⟩ := cells3 (row_on hwN HR.out); have bne := Nat.ne_of_lt (Array.getElem?_eq_some_iff.1 (row_on hwN HR.out)).1; have bd0 := fun o => (cells3 (row_on (hwN.alloc hwN.size o) HR.out)).1; have bd1 := fun o => (cells3 (row_on (hwN.alloc hwN.size o) HR.out)).2.1; have bd2 := fun o => (cells3 (row_on (hwN.alloc hwN.size o) HR.out)).2.2.1; clear hwN; cases r) | (go_at_call 13; (with_reducible refine Calls.mono (HBY.out (heavy_fit (HL.out (by trivial))) _ (HW0B.out.trans ((by first | exact HW.out | exact HW.out.alloc HW.out.size _ : Below w0.heap.size w0 _).mono HW0B.out.size))) ?_); rintro e wq ⟨⟨A5, c5, rfl, hfr⟩, h⟩; have hwN := (by first | exact HW.out.trans (h.mono HW.out.size) | exact (HW.out.alloc HW.out.size _).trans (h.mono (HW.out.alloc HW.out.size _).size) : Below w0.heap.size w0 wq); have HF := Aside0.mk hfr.bt; clear hfr; clear HW h; have HW := Aside0.mk hwN; (try clear b0 b1 b2 g0 g1 g2 bne bd0 bd1 bd2); obtain ⟨b0, b1, b2, g0, g1, g2⟩ := cells3 (row_on hwN HR.out); have bne := Nat.ne_of_lt (Array.getElem?_eq_some_iff.1 (row_on hwN HR.out)).1; have bd0 := fun o => (cells3 (row_on (hwN.alloc hwN.size o) HR.out)).1; have bd1 := fun o => (cells3 (row_on (hwN.alloc hwN.size o) HR.out)).2.1; have bd2 := fun o => (cells3 (row_on (hwN.alloc hwN.size o) HR.out)).2.2.1; clear hwN) | (go_at_call 25; (with_reducible refine Calls.mono (HWK.out _ (HW0B.out.trans ((by first | exact HW.out | exact HW.out.alloc HW.out.size _ : Below w0.heap.size w0 _).mono HW0B.out.size))) ?_); rintro e wq ⟨rfl, h⟩; have hwN := (by first | exact HW.out.trans (h.mono HW.out.size) | exact (HW.out.alloc HW.out.size _).trans (h.mono (HW.out.alloc HW.out.size _).size) : Below w0.heap.size w0 wq); clear HW h; have HW := Aside0.mk hwN; (try clear b0 b1 b2 g0 g1 g2 bne bd0 bd1 bd2); obtain ⟨b0, b1, b2, g0, g1, g2⟩ := cells3 (row_on hwN HR.out); have bne := Nat.ne_of_lt (Array.getElem?_eq_some_iff.1 (row_on hwN HR.out)).1; have bd0 := fun o => (cells3 (row_on (hwN.alloc hwN.size o) HR.out)).1; have bd1 := fun o => (cells3 (row_on (hwN.alloc hwN.size o) HR.out)).2.1; have bd2 := fun o => (cells3 (row_on (hwN.alloc hwN.size o) HR.out)).2.2.1; clear hwN))
      all_goals
        go_ret
        exact ⟨rfl, HW0B.out.trans (HW.out.mono HW0B.out.size)⟩
    · clear hA hxlI
      go_enter Tryz.func9, Tryz.ntmps9
      go_upto_region 1 with (fail)
      rw [← HW0.out]
      obtain ⟨b0, b1, b2, g0, g1, g2⟩ := cells3 HR.out
      go_wp2_with (first | (go_at_call 10; (with_reducible refine Calls.mono (HHV.out _ (HW0B.out.trans (HW.out.mono HW0B.out.size))) ?_); rintro e wq ⟨⟨r, rfl, hr⟩, h⟩; have hwN := (by first | exact HW.out.trans (h.mono HW.out.size) | exact (HW.out.alloc HW.out.size _).trans (h.mono (HW.out.alloc HW.out.size _).size) : Below w0.heap.size w0 wq); have HL := Aside0.mk hr; clear hr; clear HW h; have HW := Aside0.mk hwN; (try clear b0 b1 b2 g0 g1 g2 bne bd0 bd1 bd2); obtain ⟨b0, b1, b2, g0, g1, g2⟩ := cells3 (row_on hwN HR.out); have bne := Nat.ne_of_lt (Array.getElem?_eq_some_iff.1 (row_on hwN HR.out)).1; have bd0 := fun o => (cells3 (row_on (hwN.alloc hwN.size o) HR.out)).1; have bd1 := fun o => (cells3 (row_on (hwN.alloc hwN.size o) HR.out)).2.1; have bd2 := fun o => (cells3 (row_on (hwN.alloc hwN.size o) HR.out)).2.2.1; clear hwN; cases r) | (go_at_call 13; (with_reducible refine Calls.mono (HBY.out (heavy_fit (HL.out (by trivial))) _ (HW0B.out.trans ((by first | exact HW.out | exact HW.out.alloc HW.out.size _ : Below w0.heap.size w0 _).mono HW0B.out.size))) ?_); rintro e wq ⟨⟨A5, c5, rfl, hfr⟩, h⟩; have hwN := (by first | exact HW.out.trans (h.mono HW.out.size) | exact (HW.out.alloc HW.out.size _).trans (h.mono (HW.out.alloc HW.out.size _).size) : Below w0.heap.size w0 wq); have HF := Aside0.mk hfr.bt; clear hfr; clear HW h; have HW := Aside0.mk hwN; (try clear b0 b1 b2 g0 g1 g2 bne bd0 bd1 bd2); obtain ⟨b0, b1, b2, g0, g1, g2⟩ := cells3 (row_on hwN HR.out); have bne := Nat.ne_of_lt (Array.getElem?_eq_some_iff.1 (row_on hwN HR.out)).1; have bd0 := fun o => (cells3 (row_on (hwN.alloc hwN.size o) HR.out)).1; have bd1 := fun o => (cells3 (row_on (hwN.alloc hwN.size o) HR.out)).2.1; have bd2 := fun o => (cells3 (row_on (hwN.alloc hwN.size o) HR.out)).2.2.1; clear hwN) | (go_at_call 25; (with_reducible refine Calls.mono (HWK.out _ (HW0B.out.trans ((by first | exact HW.out | exact HW.out.alloc HW.out.size _ : Below w0.heap.size w0 _).mono HW0B.out.size))) ?_); rintro e wq ⟨rfl, h⟩; have hwN := (by first | exact HW.out.trans (h.mono HW.out.size) | exact (HW.out.alloc HW.out.size _).trans (h.mono (HW.out.alloc HW.out.size _).size) : Below w0.heap.size w0 wq); clear HW h; have HW := Aside0.mk hwN; (try clear b0 b1 b2 g0 g1 g2 bne bd0 bd1 bd2); obtain ⟨b0, b1, b2, g0, g1, g2⟩ := cells3 (row_on hwN HR.out); have bne := Nat.ne_of_lt (Array.getElem?_eq_some_iff.1 (row_on hwN HR.out)).1; have bd0 := fun o => (cells3 (row_on (hwN.alloc hwN.size o) HR.out)).1; have bd1 := fun o => (cells3 (row_on (hwN.alloc hwN.size o) HR.out)).2.1; have bd2 := fun o => (cells3 (row_on (hwN.alloc hwN.size o) HR.out)).2.2.1; clear hwN))
      all_goals
        go_ret
        exact ⟨rfl, HW0B.out.trans (HW.out.mono HW0B.out.size)⟩
end Go.Proofs.YtpfmnkpmidjfjaaGreatDoor
