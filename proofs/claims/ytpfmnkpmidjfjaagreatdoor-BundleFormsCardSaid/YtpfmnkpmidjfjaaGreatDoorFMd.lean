/- Texts of this seat, one behind the other: the plain law, the walks. -/
import Derived.Test.YtpfmnkpmidjfjaaGreatDoorProg
import Derived.WalkKit
import Derived.WalkLawsBesides
import Derived.Outline
import Derived.LoopTactic
import Derived.Lib.Hide
import Derived.Deep.QuietTactic
import Derived.BigQuiet
import Derived.Deep.LoopGhost
import Derived.Deep.DeepCutAuto
import Derived.Deep.CutBlock
import Derived.Deep.RegionHeld3
import Derived.Deep.RegionWith
import Derived.Deep.WholeRow
import Derived.Laws.Rows
import Derived.Laws.Tables
import Derived.Laws.ResultCell
import Derived.StillTailTactics
import Derived.Deep.DeepMust
import Derived.IntWalk
import Derived.KernelRfl
import Derived.Test.YtpfmnkpmidjfjaaGreatDoorFXa
import Derived.RegionTactic
import Derived.Lib.AppendStr
import Derived.Test.YtpfmnkpmidjfjaaGreatDoorFacts
import Derived.Test.YtpfmnkpmidjfjaaGreatDoorFMa
import Derived.Test.YtpfmnkpmidjfjaaGreatDoorFMb
import Derived.Test.YtpfmnkpmidjfjaaGreatDoorFMc
/- The reference's Mail and Bundle. -/
namespace Go.Proofs.YtpfmnkpmidjfjaaGreatDoor
open Go.RowKit Go.Lib
open Go.Proofs.YtpfmnkpmidjfjaaGreatDoorW.PrintWords
set_option linter.unusedVariables false
set_option linter.unusedSimpArgs false
/-- Right as a bundle's, but for what it is told with. -/
def B.rmail (m : B.Mail) : Bool := B.sole m && decide (m.body.length ≤ 4096)
theorem rmail_right (m : B.Mail) : B.right m = (B.rmail m && (!m.quiet && (m.helo.isEmpty && decide (m.tm = 0)))) := by
  unfold B.right B.rmail
  rw [Bool.and_assoc]
theorem in_any (a lo hi : Int) (w : World) : Calls Tryz.prog 45 #[.int .i64 a, .int .i64 lo, .int .i64 hi] w fun e w' => e = .returned (.bool (decide (lo ≤ a ∧ a ≤ hi))) ∧ Below w.heap.size w w' :=
  (PBundleExact.wherryref11_in.calls a lo hi _ w (in_f a lo hi)).mono (fun e w' h => ⟨h.1, h.2.below⟩)
theorem allT_take {α : Type} {l : List α} (f : α → Bool) {n : Nat} (hn : n < l.length) (d : α) (h : (l.take n).all f = true) : (l.take (n + 1)).all f = f (l.getD n d) := by
  rw [List.take_add_one, List.all_append, h, Bool.true_and, List.getElem?_eq_getElem hn, List.getD_eq_getElem?_getD, List.getElem?_eq_getElem hn]
  simp
theorem allT_false {α : Type} {l : List α} (f : α → Bool) {n : Nat} (hn : n < l.length) (d : α) (h : f (l.getD n d) = false) : l.all f = false := by
  rw [List.all_eq_false]
  exact ⟨l.getD n d, getD_mem l n hn d, by rw [h]; decide⟩
set_option maxRecDepth 100000 in
set_option maxHeartbeats 4000000 in
theorem rmail_any (m : B.Mail) (A : Option Addr) (c : Nat) (A2 : Option Addr) (c2 : Nat) (w : World) (h : Ml w m A c A2 c2) (hf : B.Fit m) :
    Calls Tryz.prog 46 #[.agg #[.bool m.frm.null, .string (str m.frm.loc), .string (str m.frm.dom), .slice A m.to.length c, .slice A2 m.body.length c2, .bool m.quiet, .string (str m.helo), .int .i64 m.tm]] w fun e w' => e = .returned (.bool (B.rmail m)) ∧ Below w.heap.size w w' := by
  obtain ⟨T, hT⟩ : ∃ T, T = B.rmail m := ⟨_, rfl⟩
  rw [← hT]
  have hT2 : T = (V.check m.frm && (decide (1 ≤ (m.to.length : Int) ∧ (m.to.length : Int) ≤ 8) && (B.body m.body && (decide (m.body.length ≤ 4096) && m.to.all (fun p => V.check p && !p.null))))) := by
    rw [hT]
    unfold B.rmail B.sole
    have e : decide (1 ≤ (m.to.length : Int) ∧ (m.to.length : Int) ≤ 8) = (decide (1 ≤ m.to.length) && decide (m.to.length ≤ 8)) := by
      rw [← Bool.decide_and]
      exact decide_eq_decide.2 (by omega)
    rw [e]
    cases V.check m.frm <;> cases decide (1 ≤ m.to.length) <;> cases decide (m.to.length ≤ 8) <;> cases B.body m.body <;> cases decide (m.body.length ≤ 4096) <;> cases m.to.all (fun p => V.check p && !p.null) <;> rfl
  obtain ⟨w0, hw0⟩ : ∃ w0, w0 = w.alloc (.cells #[.bool m.frm.null, .string (str m.frm.loc), .string (str m.frm.dom), .slice A m.to.length c, .slice A2 m.body.length c2, .bool m.quiet, .string (str m.helo), .int .i64 m.tm] 46) := ⟨_, rfl⟩
  have HWB := Aside0.mk (show Below w.heap.size w w0 by rw [hw0]; exact (Below.refl _ _).alloc (Nat.le_refl _) _)
  have HR := Aside0.mk (show w0.heap[w.heap.size]? = some (.cells #[.bool m.frm.null, .string (str m.frm.loc), .string (str m.frm.dom), .slice A m.to.length c, .slice A2 m.body.length c2, .bool m.quiet, .string (str m.helo), .int .i64 m.tm] 46 (0, 0)) by rw [hw0]; exact heap_alloc_new _ _)
  have HW0 := Aside0.mk hw0
  have HW := Aside0.mk (Below.refl w0.heap.size w0)
  have HM := Aside0.mk (h.on HWB.out)
  have HF := Aside0.mk hf
  have hp : ∀ W, Below w0.heap.size w0 W → Calls Tryz.prog 74 #[.agg #[.bool m.frm.null, .string (str m.frm.loc), .string (str m.frm.dom)]] W fun e w' => e = .returned (.bool (V.check m.frm)) ∧ Below W.heap.size W w' := fun W hW => rpath_any m.frm W hf.frm
  have hi : ∀ W, Below w0.heap.size w0 W → Calls Tryz.prog 45 #[.int .i64 (m.to.length : Int), .int .i64 1, .int .i64 8] W fun e w' => e = .returned (.bool (decide (1 ≤ (m.to.length : Int) ∧ (m.to.length : Int) ≤ 8))) ∧ Below W.heap.size W w' := fun W hW => in_any _ _ _ W
  have hbd : ∀ W, Below w0.heap.size w0 W → Calls Tryz.prog 75 #[.slice A2 m.body.length c2] W fun e w' => e = .returned (.bool (B.body m.body)) ∧ Below W.heap.size W w' := fun W hW => rbody_any (HM.out.body.on hW) (by have := hf.body; omega)
  have hbl := hf.body
  generalize hC1 : V.check m.frm = C1 at hT2 hp
  generalize hC2 : decide (1 ≤ (m.to.length : Int) ∧ (m.to.length : Int) ≤ 8) = C2 at hT2 hi
  generalize hC3 : B.body m.body = C3 at hT2 hbd
  have HP := Aside0.mk hp
  have HI := Aside0.mk hi
  have HBD := Aside0.mk hbd
  clear hp hi hbd hT h hf hw0
  rcases and5b C1 C2 C3 (decide (m.body.length ≤ 4096)) true with h5 | ⟨h5, h6⟩ | ⟨h5, h6, h7⟩ | ⟨h5, h6, h7, h8⟩ | ⟨h5, h6, h7, h8⟩
  · subst h5
    have HT := Aside0.mk (show T = false by rw [hT2]; rfl)
    clear hT2 hC1 hC2 hC3
    go_enter Tryz.func46, Tryz.ntmps46
    go_upto_region 1 with (fail)
    rw [← HW0.out]
    obtain ⟨⟨d0, d1, d2, d3, d4, d5, d6, d7⟩, y0, y1, y2, y3, y4, y5, y6, y7⟩ := cells8 HR.out
    go_wp2_with (first | (go_at_call 74; (with_reducible refine Calls.mono (HP.out _ HW.out) ?_); rintro e wq ⟨rfl, h⟩; have hwN := (HW.out.trans (h.mono HW.out.size) : Below w0.heap.size w0 wq); clear HW h; have HW := Aside0.mk hwN; (try clear d0 d1 d2 d3 d4 d5 d6 d7 y0 y1 y2 y3 y4 y5 y6 y7); obtain ⟨⟨d0, d1, d2, d3, d4, d5, d6, d7⟩, y0, y1, y2, y3, y4, y5, y6, y7⟩ := cells8 (row_on hwN HR.out); clear hwN) | (go_at_call 45; (with_reducible refine Calls.mono (HI.out _ HW.out) ?_); rintro e wq ⟨rfl, h⟩; have hwN := (HW.out.trans (h.mono HW.out.size) : Below w0.heap.size w0 wq); clear HW h; have HW := Aside0.mk hwN; (try clear d0 d1 d2 d3 d4 d5 d6 d7 y0 y1 y2 y3 y4 y5 y6 y7); obtain ⟨⟨d0, d1, d2, d3, d4, d5, d6, d7⟩, y0, y1, y2, y3, y4, y5, y6, y7⟩ := cells8 (row_on hwN HR.out); clear hwN) | (go_at_call 75; (with_reducible refine Calls.mono (HBD.out _ HW.out) ?_); rintro e wq ⟨rfl, h⟩; have hwN := (HW.out.trans (h.mono HW.out.size) : Below w0.heap.size w0 wq); clear HW h; have HW := Aside0.mk hwN; (try clear d0 d1 d2 d3 d4 d5 d6 d7 y0 y1 y2 y3 y4 y5 y6 y7); obtain ⟨⟨d0, d1, d2, d3, d4, d5, d6, d7⟩, y0, y1, y2, y3, y4, y5, y6, y7⟩ := cells8 (row_on hwN HR.out); clear hwN))
    go_ret
    exact ⟨by rw [HT.out]; rfl, HWB.out.trans (HW.out.mono HWB.out.size)⟩
  · subst h5; subst h6
    have HT := Aside0.mk (show T = false by rw [hT2]; rfl)
    clear hT2 hC1 hC2 hC3
    go_enter Tryz.func46, Tryz.ntmps46
    go_upto_region 1 with (fail)
    rw [← HW0.out]
    obtain ⟨⟨d0, d1, d2, d3, d4, d5, d6, d7⟩, y0, y1, y2, y3, y4, y5, y6, y7⟩ := cells8 HR.out
    go_wp2_with (first | (go_at_call 74; (with_reducible refine Calls.mono (HP.out _ HW.out) ?_); rintro e wq ⟨rfl, h⟩; have hwN := (HW.out.trans (h.mono HW.out.size) : Below w0.heap.size w0 wq); clear HW h; have HW := Aside0.mk hwN; (try clear d0 d1 d2 d3 d4 d5 d6 d7 y0 y1 y2 y3 y4 y5 y6 y7); obtain ⟨⟨d0, d1, d2, d3, d4, d5, d6, d7⟩, y0, y1, y2, y3, y4, y5, y6, y7⟩ := cells8 (row_on hwN HR.out); clear hwN) | (go_at_call 45; (with_reducible refine Calls.mono (HI.out _ HW.out) ?_); rintro e wq ⟨rfl, h⟩; have hwN := (HW.out.trans (h.mono HW.out.size) : Below w0.heap.size w0 wq); clear HW h; have HW := Aside0.mk hwN; (try clear d0 d1 d2 d3 d4 d5 d6 d7 y0 y1 y2 y3 y4 y5 y6 y7); obtain ⟨⟨d0, d1, d2, d3, d4, d5, d6, d7⟩, y0, y1, y2, y3, y4, y5, y6, y7⟩ := cells8 (row_on hwN HR.out); clear hwN) | (go_at_call 75; (with_reducible refine Calls.mono (HBD.out _ HW.out) ?_); rintro e wq ⟨rfl, h⟩; have hwN := (HW.out.trans (h.mono HW.out.size) : Below w0.heap.size w0 wq); clear HW h; have HW := Aside0.mk hwN; (try clear d0 d1 d2 d3 d4 d5 d6 d7 y0 y1 y2 y3 y4 y5 y6 y7); obtain ⟨⟨d0, d1, d2, d3, d4, d5, d6, d7⟩, y0, y1, y2, y3, y4, y5, y6, y7⟩ := cells8 (row_on hwN HR.out); clear hwN))
    go_ret
    exact ⟨by rw [HT.out]; rfl, HWB.out.trans (HW.out.mono HWB.out.size)⟩
  · subst h5; subst h6; subst h7
    have HT := Aside0.mk (show T = false by rw [hT2]; rfl)
    clear hT2 hC1 hC2 hC3
    go_enter Tryz.func46, Tryz.ntmps46
    go_upto_region 1 with (fail)
    rw [← HW0.out]
    obtain ⟨⟨d0, d1, d2, d3, d4, d5, d6, d7⟩, y0, y1, y2, y3, y4, y5, y6, y7⟩ := cells8 HR.out
    go_wp2_with (first | (go_at_call 74; (with_reducible refine Calls.mono (HP.out _ HW.out) ?_); rintro e wq ⟨rfl, h⟩; have hwN := (HW.out.trans (h.mono HW.out.size) : Below w0.heap.size w0 wq); clear HW h; have HW := Aside0.mk hwN; (try clear d0 d1 d2 d3 d4 d5 d6 d7 y0 y1 y2 y3 y4 y5 y6 y7); obtain ⟨⟨d0, d1, d2, d3, d4, d5, d6, d7⟩, y0, y1, y2, y3, y4, y5, y6, y7⟩ := cells8 (row_on hwN HR.out); clear hwN) | (go_at_call 45; (with_reducible refine Calls.mono (HI.out _ HW.out) ?_); rintro e wq ⟨rfl, h⟩; have hwN := (HW.out.trans (h.mono HW.out.size) : Below w0.heap.size w0 wq); clear HW h; have HW := Aside0.mk hwN; (try clear d0 d1 d2 d3 d4 d5 d6 d7 y0 y1 y2 y3 y4 y5 y6 y7); obtain ⟨⟨d0, d1, d2, d3, d4, d5, d6, d7⟩, y0, y1, y2, y3, y4, y5, y6, y7⟩ := cells8 (row_on hwN HR.out); clear hwN) | (go_at_call 75; (with_reducible refine Calls.mono (HBD.out _ HW.out) ?_); rintro e wq ⟨rfl, h⟩; have hwN := (HW.out.trans (h.mono HW.out.size) : Below w0.heap.size w0 wq); clear HW h; have HW := Aside0.mk hwN; (try clear d0 d1 d2 d3 d4 d5 d6 d7 y0 y1 y2 y3 y4 y5 y6 y7); obtain ⟨⟨d0, d1, d2, d3, d4, d5, d6, d7⟩, y0, y1, y2, y3, y4, y5, y6, y7⟩ := cells8 (row_on hwN HR.out); clear hwN))
    go_ret
    exact ⟨by rw [HT.out]; rfl, HWB.out.trans (HW.out.mono HWB.out.size)⟩
  · subst h5; subst h6; subst h7
    have h8i : 4096 < (m.body.length : Int) := by have := of_decide_eq_false h8; omega
    have HT := Aside0.mk (show T = false by rw [hT2, h8]; rfl)
    clear hT2 hC1 hC2 hC3
    go_enter Tryz.func46, Tryz.ntmps46
    go_upto_region 1 with (fail)
    rw [← HW0.out]
    obtain ⟨⟨d0, d1, d2, d3, d4, d5, d6, d7⟩, y0, y1, y2, y3, y4, y5, y6, y7⟩ := cells8 HR.out
    go_wp2_with (first | (go_at_call 74; (with_reducible refine Calls.mono (HP.out _ HW.out) ?_); rintro e wq ⟨rfl, h⟩; have hwN := (HW.out.trans (h.mono HW.out.size) : Below w0.heap.size w0 wq); clear HW h; have HW := Aside0.mk hwN; (try clear d0 d1 d2 d3 d4 d5 d6 d7 y0 y1 y2 y3 y4 y5 y6 y7); obtain ⟨⟨d0, d1, d2, d3, d4, d5, d6, d7⟩, y0, y1, y2, y3, y4, y5, y6, y7⟩ := cells8 (row_on hwN HR.out); clear hwN) | (go_at_call 45; (with_reducible refine Calls.mono (HI.out _ HW.out) ?_); rintro e wq ⟨rfl, h⟩; have hwN := (HW.out.trans (h.mono HW.out.size) : Below w0.heap.size w0 wq); clear HW h; have HW := Aside0.mk hwN; (try clear d0 d1 d2 d3 d4 d5 d6 d7 y0 y1 y2 y3 y4 y5 y6 y7); obtain ⟨⟨d0, d1, d2, d3, d4, d5, d6, d7⟩, y0, y1, y2, y3, y4, y5, y6, y7⟩ := cells8 (row_on hwN HR.out); clear hwN) | (go_at_call 75; (with_reducible refine Calls.mono (HBD.out _ HW.out) ?_); rintro e wq ⟨rfl, h⟩; have hwN := (HW.out.trans (h.mono HW.out.size) : Below w0.heap.size w0 wq); clear HW h; have HW := Aside0.mk hwN; (try clear d0 d1 d2 d3 d4 d5 d6 d7 y0 y1 y2 y3 y4 y5 y6 y7); obtain ⟨⟨d0, d1, d2, d3, d4, d5, d6, d7⟩, y0, y1, y2, y3, y4, y5, y6, y7⟩ := cells8 (row_on hwN HR.out); clear hwN))
    go_ret
    exact ⟨by rw [HT.out]; rfl, HWB.out.trans (HW.out.mono HWB.out.size)⟩
  · subst h5; subst h6; subst h7
    have h8i : (m.body.length : Int) ≤ 4096 := by have := of_decide_eq_true h8; omega
    have hl8 : m.to.length ≤ 8 := by have := of_decide_eq_true hC2; omega
    have HT := Aside0.mk (show T = m.to.all (fun p => V.check p && !p.null) by rw [hT2, h8]; rfl)
    clear hT2 hC1 hC2 hC3 h8
    go_enter Tryz.func46, Tryz.ntmps46
    go_upto_region 1 with (fail)
    rw [← HW0.out]
    obtain ⟨⟨d0, d1, d2, d3, d4, d5, d6, d7⟩, y0, y1, y2, y3, y4, y5, y6, y7⟩ := cells8 HR.out
    go_wp2_with (first | (go_at_call 74; (with_reducible refine Calls.mono (HP.out _ HW.out) ?_); rintro e wq ⟨rfl, h⟩; have hwN := (HW.out.trans (h.mono HW.out.size) : Below w0.heap.size w0 wq); clear HW h; have HW := Aside0.mk hwN; (try clear d0 d1 d2 d3 d4 d5 d6 d7 y0 y1 y2 y3 y4 y5 y6 y7); obtain ⟨⟨d0, d1, d2, d3, d4, d5, d6, d7⟩, y0, y1, y2, y3, y4, y5, y6, y7⟩ := cells8 (row_on hwN HR.out); clear hwN) | (go_at_call 45; (with_reducible refine Calls.mono (HI.out _ HW.out) ?_); rintro e wq ⟨rfl, h⟩; have hwN := (HW.out.trans (h.mono HW.out.size) : Below w0.heap.size w0 wq); clear HW h; have HW := Aside0.mk hwN; (try clear d0 d1 d2 d3 d4 d5 d6 d7 y0 y1 y2 y3 y4 y5 y6 y7); obtain ⟨⟨d0, d1, d2, d3, d4, d5, d6, d7⟩, y0, y1, y2, y3, y4, y5, y6, y7⟩ := cells8 (row_on hwN HR.out); clear hwN) | (go_at_call 75; (with_reducible refine Calls.mono (HBD.out _ HW.out) ?_); rintro e wq ⟨rfl, h⟩; have hwN := (HW.out.trans (h.mono HW.out.size) : Below w0.heap.size w0 wq); clear HW h; have HW := Aside0.mk hwN; (try clear d0 d1 d2 d3 d4 d5 d6 d7 y0 y1 y2 y3 y4 y5 y6 y7); obtain ⟨⟨d0, d1, d2, d3, d4, d5, d6, d7⟩, y0, y1, y2, y3, y4, y5, y6, y7⟩ := cells8 (row_on hwN HR.out); clear hwN))
    obtain ⟨wa, rfl⟩ : ∃ wz : World, wz = wq := ⟨_, rfl⟩
    have HRa := Aside0.mk (row_on HW.out HR.out)
    have HWa := Aside0.mk (HWB.out.trans (HW.out.mono HWB.out.size))
    have HCa := Aside0.mk (Kd.C_below HM.out.tos HW.out)
    clear HW d0 d1 d2 d3 d4 d5 d6 d7 y0 y1 y2 y3 y4 y5 y6 y7
    go_loopg [3] m.to.length (fun gf v3 wr => ∃ (n : Nat), v3 = .int .i64 n ∧ n ≤ m.to.length ∧ gf + n = m.to.length ∧ Aside0 ((m.to.take n).all (fun p => V.check p && !p.null) = true ∧ Below wa.heap.size wa wr))
    case atStart => exact ⟨0, rfl, by omega, by omega, ⟨rfl, Below.refl _ _⟩⟩
    case round =>
      obtain ⟨n, rfl, hn2, hg, H⟩ := hrel
      obtain ⟨wx, rfl⟩ : ∃ wz : World, wz = wr := ⟨_, rfl⟩
      have HRx := Aside0.mk (row_on H.out.2 HRa.out)
      obtain ⟨⟨d0, d1, d2, d3, d4, d5, d6, d7⟩, y0, y1, y2, y3, y4, y5, y6, y7⟩ := cells8 HRx.out
      have HW := Aside0.mk (Below.refl wx.heap.size wx)
      by_cases hlt : n < m.to.length
      · obtain ⟨p, hpx⟩ : ∃ p, p = m.to.getD n V.noPath := ⟨_, rfl⟩
        obtain ⟨ad, rfl, q0, q1, q2⟩ := path_at HCa.out n hlt p hpx
        have hlt' : (n : Int) < (m.to.length : Int) := by omega
        have h0 : (0 : Int) ≤ (n : Int) := by omega
        have hfp : B.fitP p := HF.out.tos _ (by rw [hpx]; exact getD_mem m.to n hlt _)
        have e0 := cell_up H.out.2 q0
        have e1 := cell_up H.out.2 q1
        have e2 := cell_up H.out.2 q2
        have hpp := rpath_any p wx hfp
        have hall := allT_take (fun p => V.check p && !p.null) hlt V.noPath H.out.1
        have hno := allT_false (l := m.to) (fun p => V.check p && !p.null) hlt V.noPath
        rw [← hpx] at hall hno
        cases hc : V.check p with
        | false =>
          rw [hc] at hpp hno
          have HPP := Aside0.mk hpp
          have HTF := Aside0.mk (HT.out.trans (hno rfl))
          clear hpp hc hfp q0 q1 q2 hpx hlt hall hno
          go_wp2_with (first | (go_at_call 74; (with_reducible refine Calls.mono (HPP.out) ?_); rintro e wq ⟨rfl, h⟩; have hwN := (HW.out.trans (h.mono HW.out.size) : Below wx.heap.size wx wq); clear HW h; have HW := Aside0.mk hwN; (try clear d0 d1 d2 d3 d4 d5 d6 d7 y0 y1 y2 y3 y4 y5 y6 y7); obtain ⟨⟨d0, d1, d2, d3, d4, d5, d6, d7⟩, y0, y1, y2, y3, y4, y5, y6, y7⟩ := cells8 (row_on hwN HRx.out); clear hwN))
          go_ret
          exact ⟨by rw [HTF.out]; rfl, HWa.out.trans ((H.out.2.trans (HW.out.mono H.out.2.size)).mono HWa.out.size)⟩
        | true =>
          cases hnl : p.null with
          | true =>
            rw [hc, hnl] at hno
            rw [hc, hnl] at hpp
            rw [hnl] at e0
            have HPP := Aside0.mk hpp
            have HTF := Aside0.mk (HT.out.trans (hno rfl))
            have HE0 := Aside0.mk e0
            clear hpp hc hfp q0 q1 q2 hpx hlt hall hno hnl
            go_wp2_with (first | (go_at_call 74; (with_reducible refine Calls.mono (HPP.out) ?_); rintro e wq ⟨rfl, h⟩; have hwN := (HW.out.trans (h.mono HW.out.size) : Below wx.heap.size wx wq); clear HW h; have HW := Aside0.mk hwN; (try clear d0 d1 d2 d3 d4 d5 d6 d7 y0 y1 y2 y3 y4 y5 y6 y7); obtain ⟨⟨d0, d1, d2, d3, d4, d5, d6, d7⟩, y0, y1, y2, y3, y4, y5, y6, y7⟩ := cells8 (row_on hwN HRx.out); (try clear e0); have e0 := cell_up hwN HE0.out; clear hwN))
            go_ret
            exact ⟨by rw [HTF.out]; rfl, HWa.out.trans ((H.out.2.trans (HW.out.mono H.out.2.size)).mono HWa.out.size)⟩
          | false =>
            rw [hc, hnl] at hall
            rw [hc, hnl] at hpp
            rw [hnl] at e0
            have HPP := Aside0.mk hpp
            have HALL := Aside0.mk hall
            have HE0 := Aside0.mk e0
            clear hpp hc hfp q0 q1 q2 hpx hlt hall hno hnl
            go_wp2_with (first | (go_at_call 74; (with_reducible refine Calls.mono (HPP.out) ?_); rintro e wq ⟨rfl, h⟩; have hwN := (HW.out.trans (h.mono HW.out.size) : Below wx.heap.size wx wq); clear HW h; have HW := Aside0.mk hwN; (try clear d0 d1 d2 d3 d4 d5 d6 d7 y0 y1 y2 y3 y4 y5 y6 y7); obtain ⟨⟨d0, d1, d2, d3, d4, d5, d6, d7⟩, y0, y1, y2, y3, y4, y5, y6, y7⟩ := cells8 (row_on hwN HRx.out); (try clear e0); have e0 := cell_up hwN HE0.out; clear hwN))
            go_roundg (gk - 1)
            case measure => omega
            case rel => exact ⟨n + 1, by go_num, by omega, by omega, ⟨HALL.out, H.out.2.trans (HW.out.mono H.out.2.size)⟩⟩
      · have hne : n = m.to.length := by omega
        have t1 : decide ((n : Int) < (m.to.length : Int)) = false := by simp; omega
        have t2 : decide (n < m.to.length) = false := by simp; omega
        have HTT := Aside0.mk (show T = true by
          have := H.out.1
          rw [hne, List.take_length] at this
          rw [HT.out, this])
        clear hne hlt
        go_wp2_with (fail)
        go_ret
        exact ⟨by rw [HTT.out]; rfl, HWa.out.trans (H.out.2.mono HWa.out.size)⟩
set_option maxRecDepth 100000 in
set_option maxHeartbeats 4000000 in
theorem rbundle_any (b : B.Bundle) (A : Option Addr) (c : Nat) (w : World) (h : Bn w b A c) (hf : B.FitB b) :
    Calls Tryz.prog 20 #[.agg #[.int .i64 b.origin, .int .i64 b.number, .slice A b.mails.length c]] w fun e w' => e = .returned (.bool (B.check b)) ∧ Below w.heap.size w w' := by
  obtain ⟨T, hT⟩ : ∃ T, T = B.check b := ⟨_, rfl⟩
  rw [← hT]
  have hT2 : T = (decide (0 ≤ b.origin ∧ b.origin ≤ 1) && (decide (1 ≤ b.number ∧ b.number ≤ 65535) && (decide (1 ≤ (b.mails.length : Int) ∧ (b.mails.length : Int) ≤ 4) && b.mails.all B.right))) := by
    rw [hT]
    unfold B.check
    have e1 : decide (0 ≤ b.origin ∧ b.origin ≤ 1) = (decide (0 ≤ b.origin) && decide (b.origin ≤ 1)) := Bool.decide_and _ _
    have e2 : decide (1 ≤ b.number ∧ b.number ≤ 65535) = (decide (1 ≤ b.number) && decide (b.number ≤ 65535)) := Bool.decide_and _ _
    have e3 : decide (1 ≤ (b.mails.length : Int) ∧ (b.mails.length : Int) ≤ 4) = (decide (1 ≤ b.mails.length) && decide (b.mails.length ≤ 4)) := by
      rw [← Bool.decide_and]
      exact decide_eq_decide.2 (by omega)
    rw [e1, e2, e3]
    simp only [Bool.and_assoc]
  obtain ⟨w0, hw0⟩ : ∃ w0, w0 = w.alloc (.cells #[.int .i64 b.origin, .int .i64 b.number, .slice A b.mails.length c] 24) := ⟨_, rfl⟩
  have HWB := Aside0.mk (show Below w.heap.size w w0 by rw [hw0]; exact (Below.refl _ _).alloc (Nat.le_refl _) _)
  have HR := Aside0.mk (show w0.heap[w.heap.size]? = some (.cells #[.int .i64 b.origin, .int .i64 b.number, .slice A b.mails.length c] 24 (0, 0)) by rw [hw0]; exact heap_alloc_new _ _)
  have HW0 := Aside0.mk hw0
  have HW := Aside0.mk (Below.refl w0.heap.size w0)
  have HB := Aside0.mk (h.on HWB.out)
  have HF := Aside0.mk hf
  have hi1 : ∀ W, Calls Tryz.prog 45 #[.int .i64 b.origin, .int .i64 0, .int .i64 1] W fun e w' => e = .returned (.bool (decide (0 ≤ b.origin ∧ b.origin ≤ 1))) ∧ Below W.heap.size W w' := fun W => in_any _ _ _ W
  have hi2 : ∀ W, Calls Tryz.prog 45 #[.int .i64 b.number, .int .i64 1, .int .i64 65535] W fun e w' => e = .returned (.bool (decide (1 ≤ b.number ∧ b.number ≤ 65535))) ∧ Below W.heap.size W w' := fun W => in_any _ _ _ W
  have hi3 : ∀ W, Calls Tryz.prog 45 #[.int .i64 (b.mails.length : Int), .int .i64 1, .int .i64 4] W fun e w' => e = .returned (.bool (decide (1 ≤ (b.mails.length : Int) ∧ (b.mails.length : Int) ≤ 4))) ∧ Below W.heap.size W w' := fun W => in_any _ _ _ W
  generalize hC1 : decide (0 ≤ b.origin ∧ b.origin ≤ 1) = C1 at hT2 hi1
  generalize hC2 : decide (1 ≤ b.number ∧ b.number ≤ 65535) = C2 at hT2 hi2
  generalize hC3 : decide (1 ≤ (b.mails.length : Int) ∧ (b.mails.length : Int) ≤ 4) = C3 at hT2 hi3
  have HI1 := Aside0.mk hi1
  have HI2 := Aside0.mk hi2
  have HI3 := Aside0.mk hi3
  clear hi1 hi2 hi3 hT h hf hw0
  rcases and5b C1 C2 C3 true true with h5 | ⟨h5, h6⟩ | ⟨h5, h6, h7⟩ | ⟨h5, h6, h7, h8⟩ | ⟨h5, h6, h7, h8⟩
  · subst h5
    have HT := Aside0.mk (show T = false by rw [hT2]; rfl)
    clear hT2 hC1 hC2 hC3
    go_enter Tryz.func20, Tryz.ntmps20
    go_upto_region 1 with (fail)
    rw [← HW0.out]
    obtain ⟨b0, b1, b2, g0, g1, g2⟩ := cells3 HR.out
    go_wp2_with (first | (go_at_call 45; (with_reducible refine Calls.mono (HI1.out _) ?_); rintro e wq ⟨rfl, h⟩; have hwN := (HW.out.trans (h.mono HW.out.size) : Below w0.heap.size w0 wq); clear HW h; have HW := Aside0.mk hwN; (try clear b0 b1 b2 g0 g1 g2); obtain ⟨b0, b1, b2, g0, g1, g2⟩ := cells3 (row_on hwN HR.out); clear hwN) | (go_at_call 45; (with_reducible refine Calls.mono (HI2.out _) ?_); rintro e wq ⟨rfl, h⟩; have hwN := (HW.out.trans (h.mono HW.out.size) : Below w0.heap.size w0 wq); clear HW h; have HW := Aside0.mk hwN; (try clear b0 b1 b2 g0 g1 g2); obtain ⟨b0, b1, b2, g0, g1, g2⟩ := cells3 (row_on hwN HR.out); clear hwN) | (go_at_call 45; (with_reducible refine Calls.mono (HI3.out _) ?_); rintro e wq ⟨rfl, h⟩; have hwN := (HW.out.trans (h.mono HW.out.size) : Below w0.heap.size w0 wq); clear HW h; have HW := Aside0.mk hwN; (try clear b0 b1 b2 g0 g1 g2); obtain ⟨b0, b1, b2, g0, g1, g2⟩ := cells3 (row_on hwN HR.out); clear hwN))
    go_ret
    exact ⟨by rw [HT.out]; rfl, HWB.out.trans (HW.out.mono HWB.out.size)⟩
  · subst h5; subst h6
    have HT := Aside0.mk (show T = false by rw [hT2]; rfl)
    clear hT2 hC1 hC2 hC3
    go_enter Tryz.func20, Tryz.ntmps20
    go_upto_region 1 with (fail)
    rw [← HW0.out]
    obtain ⟨b0, b1, b2, g0, g1, g2⟩ := cells3 HR.out
    go_wp2_with (first | (go_at_call 45; (with_reducible refine Calls.mono (HI1.out _) ?_); rintro e wq ⟨rfl, h⟩; have hwN := (HW.out.trans (h.mono HW.out.size) : Below w0.heap.size w0 wq); clear HW h; have HW := Aside0.mk hwN; (try clear b0 b1 b2 g0 g1 g2); obtain ⟨b0, b1, b2, g0, g1, g2⟩ := cells3 (row_on hwN HR.out); clear hwN) | (go_at_call 45; (with_reducible refine Calls.mono (HI2.out _) ?_); rintro e wq ⟨rfl, h⟩; have hwN := (HW.out.trans (h.mono HW.out.size) : Below w0.heap.size w0 wq); clear HW h; have HW := Aside0.mk hwN; (try clear b0 b1 b2 g0 g1 g2); obtain ⟨b0, b1, b2, g0, g1, g2⟩ := cells3 (row_on hwN HR.out); clear hwN) | (go_at_call 45; (with_reducible refine Calls.mono (HI3.out _) ?_); rintro e wq ⟨rfl, h⟩; have hwN := (HW.out.trans (h.mono HW.out.size) : Below w0.heap.size w0 wq); clear HW h; have HW := Aside0.mk hwN; (try clear b0 b1 b2 g0 g1 g2); obtain ⟨b0, b1, b2, g0, g1, g2⟩ := cells3 (row_on hwN HR.out); clear hwN))
    go_ret
    exact ⟨by rw [HT.out]; rfl, HWB.out.trans (HW.out.mono HWB.out.size)⟩
  · subst h5; subst h6; subst h7
    have HT := Aside0.mk (show T = false by rw [hT2]; rfl)
    clear hT2 hC1 hC2 hC3
    go_enter Tryz.func20, Tryz.ntmps20
    go_upto_region 1 with (fail)
    rw [← HW0.out]
    obtain ⟨b0, b1, b2, g0, g1, g2⟩ := cells3 HR.out
    go_wp2_with (first | (go_at_call 45; (with_reducible refine Calls.mono (HI1.out _) ?_); rintro e wq ⟨rfl, h⟩; have hwN := (HW.out.trans (h.mono HW.out.size) : Below w0.heap.size w0 wq); clear HW h; have HW := Aside0.mk hwN; (try clear b0 b1 b2 g0 g1 g2); obtain ⟨b0, b1, b2, g0, g1, g2⟩ := cells3 (row_on hwN HR.out); clear hwN) | (go_at_call 45; (with_reducible refine Calls.mono (HI2.out _) ?_); rintro e wq ⟨rfl, h⟩; have hwN := (HW.out.trans (h.mono HW.out.size) : Below w0.heap.size w0 wq); clear HW h; have HW := Aside0.mk hwN; (try clear b0 b1 b2 g0 g1 g2); obtain ⟨b0, b1, b2, g0, g1, g2⟩ := cells3 (row_on hwN HR.out); clear hwN) | (go_at_call 45; (with_reducible refine Calls.mono (HI3.out _) ?_); rintro e wq ⟨rfl, h⟩; have hwN := (HW.out.trans (h.mono HW.out.size) : Below w0.heap.size w0 wq); clear HW h; have HW := Aside0.mk hwN; (try clear b0 b1 b2 g0 g1 g2); obtain ⟨b0, b1, b2, g0, g1, g2⟩ := cells3 (row_on hwN HR.out); clear hwN))
    go_ret
    exact ⟨by rw [HT.out]; rfl, HWB.out.trans (HW.out.mono HWB.out.size)⟩
  · cases h8
  · subst h5; subst h6; subst h7
    have HT := Aside0.mk (show T = b.mails.all B.right by rw [hT2]; rfl)
    have hl4 : b.mails.length ≤ 4 := by have := of_decide_eq_true hC3; omega
    clear hT2 hC1 hC2 hC3 h8
    go_enter Tryz.func20, Tryz.ntmps20
    go_upto_region 1 with (fail)
    rw [← HW0.out]
    obtain ⟨b0, b1, b2, g0, g1, g2⟩ := cells3 HR.out
    go_wp2_with (first | (go_at_call 45; (with_reducible refine Calls.mono (HI1.out _) ?_); rintro e wq ⟨rfl, h⟩; have hwN := (HW.out.trans (h.mono HW.out.size) : Below w0.heap.size w0 wq); clear HW h; have HW := Aside0.mk hwN; (try clear b0 b1 b2 g0 g1 g2); obtain ⟨b0, b1, b2, g0, g1, g2⟩ := cells3 (row_on hwN HR.out); clear hwN) | (go_at_call 45; (with_reducible refine Calls.mono (HI2.out _) ?_); rintro e wq ⟨rfl, h⟩; have hwN := (HW.out.trans (h.mono HW.out.size) : Below w0.heap.size w0 wq); clear HW h; have HW := Aside0.mk hwN; (try clear b0 b1 b2 g0 g1 g2); obtain ⟨b0, b1, b2, g0, g1, g2⟩ := cells3 (row_on hwN HR.out); clear hwN) | (go_at_call 45; (with_reducible refine Calls.mono (HI3.out _) ?_); rintro e wq ⟨rfl, h⟩; have hwN := (HW.out.trans (h.mono HW.out.size) : Below w0.heap.size w0 wq); clear HW h; have HW := Aside0.mk hwN; (try clear b0 b1 b2 g0 g1 g2); obtain ⟨b0, b1, b2, g0, g1, g2⟩ := cells3 (row_on hwN HR.out); clear hwN))
    obtain ⟨wa, rfl⟩ : ∃ wz : World, wz = wq := ⟨_, rfl⟩
    have HRa := Aside0.mk (row_on HW.out HR.out)
    have HWa := Aside0.mk (HWB.out.trans (HW.out.mono HWB.out.size))
    have HBa := Aside0.mk (HB.out.on HW.out)
    clear HW b0 b1 b2 g0 g1 g2
    go_loopg [3] b.mails.length (fun gf v3 wr => ∃ (n : Nat), v3 = .int .i64 n ∧ n ≤ b.mails.length ∧ gf + n = b.mails.length ∧ Aside0 ((b.mails.take n).all B.right = true ∧ Below wa.heap.size wa wr))
    case atStart => exact ⟨0, rfl, by omega, by omega, ⟨rfl, Below.refl _ _⟩⟩
    case round =>
      obtain ⟨n, rfl, hn2, hg, H⟩ := hrel
      obtain ⟨wx, rfl⟩ : ∃ wz : World, wz = wr := ⟨_, rfl⟩
      have HRx := Aside0.mk (row_on H.out.2 HRa.out)
      obtain ⟨b0, b1, b2, g0, g1, g2⟩ := cells3 HRx.out
      by_cases hlt : n < b.mails.length
      · obtain ⟨x, hx⟩ : ∃ x, x = b.mails.getD n B.noMail := ⟨_, rfl⟩
        obtain ⟨ad, A1, c1, A3, c3, rfl, hm, hl⟩ := mail_at HBa.out.rd n hlt x hx
        obtain ⟨q0, q1, q2, q3, q4, q5, q6, q7⟩ := hm.on H.out.2
        have hlt' : (n : Int) < (b.mails.length : Int) := by omega
        have h0 : (0 : Int) ≤ (n : Int) := by omega
        have hfx : B.Fit x := HF.out.ms _ (by rw [hx]; exact getD_mem b.mails n hlt _)
        have hall := allT_take B.right hlt B.noMail H.out.1
        have hno := allT_false (l := b.mails) B.right hlt B.noMail
        rw [← hx] at hall hno
        have HML := Aside0.mk (hl.on H.out.2)
        have HFX := Aside0.mk hfx
        clear hx hm hl hfx
        go_upto_region 7 with (fail)
        obtain ⟨wy, hwy⟩ : ∃ wy, wy = wx.alloc (.cells #[.bool x.frm.null, .string (str x.frm.loc), .string (str x.frm.dom), .slice A1 x.to.length c1, .slice A3 x.body.length c3, .bool x.quiet, .string (str x.helo), .int .i64 x.tm] 46) := ⟨_, rfl⟩
        rw [← hwy]
        have HWy := Aside0.mk (show Below wx.heap.size wx wy by rw [hwy]; exact (Below.refl _ _).alloc (Nat.le_refl _) _)
        have HRy := Aside0.mk (show wy.heap[wx.heap.size]? = some (.cells #[.bool x.frm.null, .string (str x.frm.loc), .string (str x.frm.dom), .slice A1 x.to.length c1, .slice A3 x.body.length c3, .bool x.quiet, .string (str x.helo), .int .i64 x.tm] 46 (0, 0)) by rw [hwy]; exact heap_alloc_new _ _)
        have HRM := Aside0.mk (rmail_any x A1 c1 A3 c3 wy (HML.out.on HWy.out) HFX.out)
        have hrr := rmail_right x
        clear hwy q0 q1 q2 q3 q4 q5 q6 q7 b0 b1 b2 g0 g1 g2
        have HW := Aside0.mk (Below.refl wy.heap.size wy)
        have HWxy := Aside0.mk (H.out.2.trans (HWy.out.mono H.out.2.size))
        obtain ⟨⟨d0, d1, d2, d3, d4, d5, d6, d7⟩, y0, y1, y2, y3, y4, y5, y6, y7⟩ := cells8 HRy.out
        have hemp : x.helo.isEmpty = (str x.helo).toList.isEmpty := by rw [ByteArray.toList_eq]; rfl
        rw [hemp] at hrr
        obtain ⟨q, hq⟩ : ∃ q, q = x.quiet := ⟨_, rfl⟩
        rw [← hq] at hrr
        generalize hRm : B.rmail x = Rm at hrr HRM
        rcases and5b Rm (!q) ((str x.helo).toList.isEmpty) (decide (x.tm = 0)) true with h5 | ⟨h5, h6⟩ | ⟨h5, h6, h7⟩ | ⟨h5, h6, h7, h8⟩ | ⟨h5, h6, h7, h8⟩
        · subst h5
          have HTF := Aside0.mk (HT.out.trans (hno (by rw [hrr]; rfl)))
          clear hall hno hrr hRm hemp hq hlt
          (try clear h6); (try clear h7)
          go_wp2_with (first | (go_at_call 46; (with_reducible refine Calls.mono (HRM.out) ?_); rintro e wq ⟨rfl, h⟩; have hwN := (HW.out.trans (h.mono HW.out.size) : Below wy.heap.size wy wq); clear HW h; have HW := Aside0.mk hwN; (try clear d0 d1 d2 d3 d4 d5 d6 d7 y0 y1 y2 y3 y4 y5 y6 y7); obtain ⟨⟨d0, d1, d2, d3, d4, d5, d6, d7⟩, y0, y1, y2, y3, y4, y5, y6, y7⟩ := cells8 (row_on hwN HRy.out); clear hwN))
          go_ret
          exact ⟨by rw [HTF.out]; rfl, HWa.out.trans ((HWxy.out.trans (HW.out.mono HWxy.out.size)).mono HWa.out.size)⟩
        · subst h5
          obtain rfl : q = true := by simpa using h6
          rw [← hq] at d5 HRM HRy
          have HTF := Aside0.mk (HT.out.trans (hno (by rw [hrr]; rfl)))
          clear hall hno hrr hRm hemp hq hlt
          (try clear h6); (try clear h7)
          go_wp2_with (first | (go_at_call 46; (with_reducible refine Calls.mono (HRM.out) ?_); rintro e wq ⟨rfl, h⟩; have hwN := (HW.out.trans (h.mono HW.out.size) : Below wy.heap.size wy wq); clear HW h; have HW := Aside0.mk hwN; (try clear d0 d1 d2 d3 d4 d5 d6 d7 y0 y1 y2 y3 y4 y5 y6 y7); obtain ⟨⟨d0, d1, d2, d3, d4, d5, d6, d7⟩, y0, y1, y2, y3, y4, y5, y6, y7⟩ := cells8 (row_on hwN HRy.out); clear hwN))
          go_ret
          exact ⟨by rw [HTF.out]; rfl, HWa.out.trans ((HWxy.out.trans (HW.out.mono HWxy.out.size)).mono HWa.out.size)⟩
        · subst h5
          obtain rfl : q = false := by simpa using h6
          rw [← hq] at d5 HRM HRy
          have h7' : ¬ ((str x.helo).toList = []) := fun h => by rw [h] at h7; cases h7
          have HTF := Aside0.mk (HT.out.trans (hno (by rw [hrr, h7]; rfl)))
          clear hall hno hrr hRm hemp hq hlt
          (try clear h6); (try clear h7)
          go_wp2_with (first | (go_at_call 46; (with_reducible refine Calls.mono (HRM.out) ?_); rintro e wq ⟨rfl, h⟩; have hwN := (HW.out.trans (h.mono HW.out.size) : Below wy.heap.size wy wq); clear HW h; have HW := Aside0.mk hwN; (try clear d0 d1 d2 d3 d4 d5 d6 d7 y0 y1 y2 y3 y4 y5 y6 y7); obtain ⟨⟨d0, d1, d2, d3, d4, d5, d6, d7⟩, y0, y1, y2, y3, y4, y5, y6, y7⟩ := cells8 (row_on hwN HRy.out); clear hwN))
          go_ret
          exact ⟨by rw [HTF.out]; rfl, HWa.out.trans ((HWxy.out.trans (HW.out.mono HWxy.out.size)).mono HWa.out.size)⟩
        · subst h5
          obtain rfl : q = false := by simpa using h6
          rw [← hq] at d5 HRM HRy
          have h7' : (str x.helo).toList = [] := List.isEmpty_iff.1 h7
          have h8' : ¬ (x.tm = 0) := of_decide_eq_false h8
          have h8b : (x.tm != 0) = true := bne_iff_ne.2 h8'
          have HTF := Aside0.mk (HT.out.trans (hno (by rw [hrr, h7, h8]; rfl)))
          clear h8
          clear hall hno hrr hRm hemp hq hlt
          (try clear h6); (try clear h7)
          go_wp2_with (first | (go_at_call 46; (with_reducible refine Calls.mono (HRM.out) ?_); rintro e wq ⟨rfl, h⟩; have hwN := (HW.out.trans (h.mono HW.out.size) : Below wy.heap.size wy wq); clear HW h; have HW := Aside0.mk hwN; (try clear d0 d1 d2 d3 d4 d5 d6 d7 y0 y1 y2 y3 y4 y5 y6 y7); obtain ⟨⟨d0, d1, d2, d3, d4, d5, d6, d7⟩, y0, y1, y2, y3, y4, y5, y6, y7⟩ := cells8 (row_on hwN HRy.out); clear hwN))
          go_ret
          exact ⟨by rw [HTF.out]; rfl, HWa.out.trans ((HWxy.out.trans (HW.out.mono HWxy.out.size)).mono HWa.out.size)⟩
        · subst h5
          obtain rfl : q = false := by simpa using h6
          rw [← hq] at d5 HRM HRy
          have h7' : (str x.helo).toList = [] := List.isEmpty_iff.1 h7
          have h8' : x.tm = 0 := of_decide_eq_true h8
          have HALL := Aside0.mk (hall.trans (by rw [hrr, h7, h8]; first | done | rfl))
          rw [h8'] at d7 HRM HRy
          clear hall hno hrr hRm hemp hq h6 h7 h8 h8' hlt
          go_wp2_with (first | (go_at_call 46; (with_reducible refine Calls.mono (HRM.out) ?_); rintro e wq ⟨rfl, h⟩; have hwN := (HW.out.trans (h.mono HW.out.size) : Below wy.heap.size wy wq); clear HW h; have HW := Aside0.mk hwN; (try clear d0 d1 d2 d3 d4 d5 d6 d7 y0 y1 y2 y3 y4 y5 y6 y7); obtain ⟨⟨d0, d1, d2, d3, d4, d5, d6, d7⟩, y0, y1, y2, y3, y4, y5, y6, y7⟩ := cells8 (row_on hwN HRy.out); clear hwN))
          go_roundg (gk - 1)
          case measure => omega
          case rel => exact ⟨n + 1, by go_num, by omega, by omega, ⟨HALL.out, HWxy.out.trans (HW.out.mono HWxy.out.size)⟩⟩
      · have hne : n = b.mails.length := by omega
        have t1 : decide ((n : Int) < (b.mails.length : Int)) = false := by simp; omega
        have t2 : decide (n < b.mails.length) = false := by simp; omega
        have HTT := Aside0.mk (show T = true by
          have := H.out.1
          rw [hne, List.take_length] at this
          rw [HT.out, this])
        clear hne hlt
        go_wp2_with (fail)
        go_ret
        exact ⟨by rw [HTT.out]; rfl, HWa.out.trans (H.out.2.mono HWa.out.size)⟩
end Go.Proofs.YtpfmnkpmidjfjaaGreatDoor
/- What the reference's commands answers of a right bundle. -/
namespace Go.Proofs.YtpfmnkpmidjfjaaGreatDoor
open Go.RowKit Go.Lib
open Go.Proofs.YtpfmnkpmidjfjaaGreatDoorW.PrintWords
set_option linter.unusedVariables false
set_option linter.unusedSimpArgs false
theorem box_rtext {p : V.Path} (h : V.check p = true) : B.box p = V.rtext p := by
  unfold B.box V.ptext V.rtext
  rw [if_pos h]
  split <;> simp
theorem bd_append_str_step {ops : Array Oper} {o : Oper} {a : Act} {Q : Exit → Act → World → Prop} {w0 W : World} {b : Nat} {Kc : Act → World → Prop} (hw : Region.wanted o (yielded ops a.tmps) = true) (s x : Operand)
    (ho : o.op = .call { callee := .builtin .append, args := #[s, x], argTypes := #[25, 9] }) (v : Value) (xs ys : B.Bs)
    (hs : a.eval s = v) (hx : a.eval x = .string (str ys)) (h : Bd b w0 W v xs) (hlen : xs.length + ys.length ≤ 100000000000000)
    (k : ∀ v1 w1, Bd b w0 w1 v1 (xs ++ ys) → W.grownBy w1 v.ownBlock → Kc (a.put o.dst v1) w1) : if Region.wanted o (yielded ops a.tmps) = true then Oper.wp Tryz.prog o a W Kc Q else Kc (a.put o.dst undef) W := by
  rw [if_pos hw]
  obtain ⟨i0, hi, hzz⟩ := Option.map_eq_some_iff.1 infoU8
  simp only [Prod.mk.injEq] at hzz
  obtain ⟨hz0, hz1, hz2⟩ := hzz
  have hsz : (str ys).size = ys.length := str_size _
  obtain ⟨v', w', hr, h2, h3, h4⟩ := run_append_own_string (P := Tryz.prog) W b 25 9 o.type 5 i0 Tryz.underlying25 Tryz.underlying9 hi hz0 hz1 hz2 v (nb xs).length (nums .u8 (nb xs)) h.own (str ys) (by rw [hsz, nb_length]; simp only [maxLen]; omega) (by rw [hsz, nb_length]; omega) h.sz
  unfold Oper.wp execOp
  simp only [ho, resolve, invoke, builtin, Sem.run_bind, Sem.run_pure, Result.andThen_ok, List.map_toArray, List.map_cons, List.map_nil, hs, hx, hr]
  refine k v' w' ⟨h.be.grown h3 h.sz (own_base h.own), ?_, Nat.le_trans h.sz h3.size⟩ h3
  have e3 : Go.Proofs.YtpfmnkpmidjfjaaGreatDoorW.PrintWords.bytesOf (str ys) = nb ys := by
    show nb (lst (str ys)) = nb ys
    rw [lst_str]
  have e2 : strCells (str ys) = nums .u8 (nb ys) := by
    rw [← e3]
    simp [nums, Go.Proofs.YtpfmnkpmidjfjaaGreatDoorW.PrintWords.bytesOf, Lib.strCells]
  have e : nums .u8 (nb xs) ++ strCells (str ys) = nums .u8 (nb (xs ++ ys)) := by rw [nb_append, nums_append, e2]
  rw [e, show (nb xs).length + (str ys).size = (nb (xs ++ ys)).length by rw [hsz, nb_length, nb_length, List.length_append]] at h2
  exact Kd.R_of_own h2 (fun _ _ => trivial)
theorem bd_append2_step {ops : Array Oper} {o : Oper} {a : Act} {Q : Exit → Act → World → Prop} {w0 W : World} {b : Nat} {Kc : Act → World → Prop} (hw : Region.wanted o (yielded ops a.tmps) = true) (s x : Operand)
    (ho : o.op = .call { callee := .builtin .append, args := #[s, x], argTypes := #[25, 25] }) (v : Value) (xs ys : B.Bs) (A : Option Addr) (n c : Nat)
    (hs : a.eval s = v) (hx : a.eval x = .slice A n c) (hn : n = ys.length) (h : Bd b w0 W v xs) (hy : Bt W A c ys) (hlen : xs.length + ys.length ≤ 100000000000000)
    (k : ∀ v1 w1, Bd b w0 w1 v1 (xs ++ ys) → W.grownBy w1 v.ownBlock → Kc (a.put o.dst v1) w1) : if Region.wanted o (yielded ops a.tmps) = true then Oper.wp Tryz.prog o a W Kc Q else Kc (a.put o.dst undef) W := by
  subst hn
  refine Kd.R_append_rows_step kb (w0 := w0) b hw s x 25 5 (.int .u8 0) 1 ho Tryz.underlying25 infoU8 rfl (by decide) (by omega) v (nb xs) (nb ys) A (nb ys).length c (fun _ => True) (fun _ => False) hs (by rw [nb_length]; exact hx) h.ow hy.rd (fun _ _ h => h) (fun _ h => h.elim) (fun _ _ => trivial) h.be h.sz (by rw [nb_length, nb_length]; omega) ?_
  intro v1 w1 h1 h2 h3 _
  refine k v1 w1 ⟨h2, ?_, Nat.le_trans h.sz h3.size⟩ h3
  unfold Ow
  rw [nb_append]
  exact h1
theorem right_parts {m : B.Mail} (h : B.right m = true) : V.check m.frm = true ∧ (∀ p ∈ m.to, V.check p = true) ∧ B.body m.body = true := by
  unfold B.right B.sole at h
  simp only [Bool.and_eq_true, List.all_eq_true] at h
  exact ⟨h.1.1, fun p hp => (h.1.2.2.2.1 p hp).1, h.1.2.2.2.2⟩
set_option maxRecDepth 100000 in
set_option maxHeartbeats 8000000 in
theorem rcommands_any (b : B.Bundle) (A : Option Addr) (c : Nat) (w : World) (h : Bn w b A c) (hf : B.FitB b) (hr : ∀ m ∈ b.mails, B.right m = true) :
    Calls Tryz.prog 33 #[.agg #[.int .i64 b.origin, .int .i64 b.number, .slice A b.mails.length c]] w fun e w' => (∃ v, e = .returned v ∧ Ow w.heap.size w' v (B.commands b.mails)) ∧ Below w.heap.size w w' := by
  have HRT := Aside0.mk hr
  obtain ⟨w0, hw0⟩ : ∃ w0, w0 = w.alloc (.cells #[.int .i64 b.origin, .int .i64 b.number, .slice A b.mails.length c] 24) := ⟨_, rfl⟩
  have HWB := Aside0.mk (show Below w.heap.size w w0 by rw [hw0]; exact (Below.refl _ _).alloc (Nat.le_refl _) _)
  have HRB := Aside0.mk (show w0.heap[w.heap.size]? = some (.cells #[.int .i64 b.origin, .int .i64 b.number, .slice A b.mails.length c] 24 (0, 0)) by rw [hw0]; exact heap_alloc_new _ _)
  have HW0 := Aside0.mk hw0
  have HB := Aside0.mk (h.on HWB.out)
  have HM := Aside0.mk hf.ms
  have hfn := hf.n
  clear h hf hw0 hr
  go_enter Tryz.func33, Tryz.ntmps33
  go_upto_region 1 with (fail)
  rw [← HW0.out]
  go_wp2_with (fail)
  go_loopg [3, 4] b.mails.length (fun gf v3 v4 wr => ∃ (n : Nat), v4 = .int .i64 n ∧ n ≤ b.mails.length ∧ gf + n = b.mails.length ∧ Aside0 (Bd w0.heap.size w0 wr v3 ((b.mails.take n).flatMap B.mailBytes)))
  case atStart => exact ⟨0, rfl, by omega, by omega, ⟨Bd.none w0⟩⟩
  case round =>
    obtain ⟨n, rfl, hn, hg, H⟩ := hrel
    obtain ⟨wx, rfl⟩ : ∃ wz : World, wz = wr := ⟨_, rfl⟩
    obtain ⟨go, rfl⟩ : ∃ z : Nat, z = gk := ⟨_, rfl⟩
    obtain ⟨out, hout⟩ : ∃ out, out = (b.mails.take n).flatMap B.mailBytes := ⟨_, rfl⟩
    rw [← hout] at H
    obtain ⟨A6, c6, rfl, hb6⟩ := Ow.bt H.out.ow
    have hol : out.length ≤ 40000000000000 := by
      rw [hout]
      exact mails_len (fun m hm => HM.out m (List.mem_of_mem_take hm)) (by rw [List.length_take]; omega)
    have HOL := Aside0.mk hol
    have HOUT := Aside0.mk hout
    have HRx := Aside0.mk (row_on H.out.be HRB.out)
    obtain ⟨b0, b1, b2, g0, g1, g2⟩ := cells3 HRx.out
    clear hol hout hb6
    by_cases hlt : n < b.mails.length
    · obtain ⟨m, hm⟩ : ∃ m, m = b.mails.getD n B.noMail := ⟨_, rfl⟩
      obtain ⟨ad, A1, c1, A2, c2, rfl, hmc, hml⟩ := mail_at HB.out.rd n hlt m hm
      obtain ⟨q0, q1, q2, q3, q4, q5, q6, q7⟩ := hmc.on H.out.be
      have hlt' : (n : Int) < (b.mails.length : Int) := by omega
      have h0 : (0 : Int) ≤ (n : Int) := by omega
      have hmem : m ∈ b.mails := by rw [hm]; exact getD_mem b.mails n hlt _
      have HFX := Aside0.mk (HM.out _ hmem)
      have HRP := Aside0.mk (right_parts (HRT.out _ hmem))
      have HML := Aside0.mk hml
      have hft := flat_take B.mailBytes b.mails n hlt B.noMail
      rw [← hm, ← HOUT.out] at hft
      have HFT := Aside0.mk hft
      clear hm hmc hml hft hmem
      go_upto_region 6 with (fail)
      obtain ⟨wy, hwy⟩ : ∃ wy, wy = wx.alloc (.cells #[.bool m.frm.null, .string (str m.frm.loc), .string (str m.frm.dom), .slice A1 m.to.length c1, .slice A2 m.body.length c2, .bool m.quiet, .string (str m.helo), .int .i64 m.tm] 46) := ⟨_, rfl⟩
      obtain ⟨gm, hgm⟩ : ∃ gm, gm = wx.heap.size := ⟨_, rfl⟩
      rw [← hwy, ← hgm]
      have HDy := Aside0.mk (show Bd w0.heap.size w0 wy (.slice A6 out.length c6) out by rw [hwy]; exact H.out.alloc _)
      have HRy := Aside0.mk (show wy.heap[gm]? = some (.cells #[.bool m.frm.null, .string (str m.frm.loc), .string (str m.frm.dom), .slice A1 m.to.length c1, .slice A2 m.body.length c2, .bool m.quiet, .string (str m.helo), .int .i64 m.tm] 46 (0, 0)) by rw [hwy, hgm]; exact heap_alloc_new _ _)
      clear hwy hgm q0 q1 q2 q3 q4 q5 q6 q7 b0 b1 b2 g0 g1 g2
      obtain ⟨⟨d0, d1, d2, d3, d4, d5, d6, d7⟩, y0, y1, y2, y3, y4, y5, y6, y7⟩ := cells8 HRy.out
      obtain ⟨bx, hbx⟩ : ∃ bx, bx = V.rtext m.frm := ⟨_, rfl⟩
      have hbb : bx = B.box m.frm := by rw [hbx, box_rtext HRP.out.1]
      have hbl := box_len HFX.out.frm
      rw [← hbb] at hbl
      have hpt : ∀ W, Calls Tryz.prog 55 #[.agg #[.bool m.frm.null, .string (str m.frm.loc), .string (str m.frm.dom)]] W fun e w' => e = .returned (.string (str bx)) ∧ Below W.heap.size W w' := fun W => by rw [hbx]; exact rtext_any m.frm W HFX.out.frm.1 HFX.out.frm.2
      have HPT := Aside0.mk hpt
      have k1 := kat (a := B.wFrom) (b := bx) (x := ⟨#[77, 65, 73, 76, 32, 70, 82, 79, 77, 58]⟩) (y := str bx) rfl rfl (by decide) (by omega)
      have k2 := kat (a := B.wFrom ++ bx) (b := [13, 10]) (x := str (B.wFrom ++ bx)) (y := ⟨#[13, 10]⟩) rfl rfl (by have : B.wFrom.length = 10 := rfl; rw [List.length_append]; omega) (by decide)
      obtain ⟨s1, hs1⟩ : ∃ s1, s1 = str (B.wFrom ++ bx) := ⟨_, rfl⟩
      obtain ⟨l2, hl2⟩ : ∃ l2, l2 = B.wFrom ++ bx ++ [13, 10] := ⟨_, rfl⟩
      have hl2l : l2.length ≤ 300000 := by have : B.wFrom.length = 10 := rfl; rw [hl2, List.length_append, List.length_append]; simp; omega
      rw [← hs1] at k1 k2
      rw [← hl2] at k2
      have HL2 := Aside0.mk hl2l
      have HLL := Aside0.mk (show l2 = B.wFrom ++ B.box m.frm ++ B.crlf by rw [hl2, hbb]; rfl)
      clear hpt hbx hbb hbl hs1 hl2 hl2l
      go_wp2_with (first | (go_at_call 55; (with_reducible refine Calls.mono (HPT.out _) ?_); rintro r w1 ⟨rfl, h⟩; have HD1 := Aside0.mk (HDy.out.go h); have HR1 := Aside0.mk (row_on h HRy.out); clear h) | ((with_reducible refine gate_builtin (b := .append) (xs := #[.tmp 19, .tmp 24]) rfl ?_); at_builtin; refine bd_append_str rfl (.tmp 19) (.tmp 24) rfl _ _ l2 rfl rfl HD1.out (by have := HOL.out; have := HL2.out; omega) ?_; intro v1 w2 h hg; have HD2 := Aside0.mk h; have HR2 := Aside0.mk (HD1.out.row hg (by decide) HR1.out); clear h hg; (try clear d0 d1 d2 d3 d4 d5 d6 d7 y0 y1 y2 y3 y4 y5 y6 y7); obtain ⟨⟨d0, d1, d2, d3, d4, d5, d6, d7⟩, y0, y1, y2, y3, y4, y5, y6, y7⟩ := cells8 HR2.out))
      go_loopg [3, 6] m.to.length (fun gf v3 v6 wr => ∃ (k : Nat), v6 = .int .i64 k ∧ k ≤ m.to.length ∧ gf + k = m.to.length ∧ Aside0 (Bd w0.heap.size w0 wr v3 (out ++ l2 ++ (m.to.take k).flatMap B.toLine) ∧ wr.heap[gm]? = some (.cells #[.bool m.frm.null, .string (str m.frm.loc), .string (str m.frm.dom), .slice A1 m.to.length c1, .slice A2 m.body.length c2, .bool m.quiet, .string (str m.helo), .int .i64 m.tm] 46 (0, 0))))
      case atStart => exact ⟨0, rfl, by omega, by omega, ⟨by simpa using HD2.out, HR2.out⟩⟩
      case round =>
        obtain ⟨k, rfl, hk, hgk, H3⟩ := hrel
        obtain ⟨wz, rfl⟩ : ∃ wz : World, wz = wr := ⟨_, rfl⟩
        obtain ⟨gi, rfl⟩ : ∃ z : Nat, z = gk := ⟨_, rfl⟩
        obtain ⟨out3, hout3⟩ : ∃ out3, out3 = out ++ l2 ++ (m.to.take k).flatMap B.toLine := ⟨_, rfl⟩
        rw [← hout3] at H3
        have hol3 : out3.length ≤ 61000000000000 := by
          have h1 := tos_len (l := m.to.take k) (fun p hp => HFX.out.tos p (List.mem_of_mem_take hp)) (by rw [List.length_take]; have := HFX.out.n; omega)
          have := HOL.out
          have := HL2.out
          rw [hout3]
          simp only [List.length_append]
          omega
        have HOL3 := Aside0.mk hol3
        have HOUT3 := Aside0.mk hout3
        obtain ⟨A7, c7, rfl, hb7⟩ := Ow.bt H3.out.1.ow
        clear hol3 hout3 hb7 k1 k2 d0 d1 d2 d3 d4 d5 d6 d7 y0 y1 y2 y3 y4 y5 y6 y7
        obtain ⟨⟨d0, d1, d2, d3, d4, d5, d6, d7⟩, y0, y1, y2, y3, y4, y5, y6, y7⟩ := cells8 H3.out.2
        have hto : m.to.length ≤ 100000 := HFX.out.n
        by_cases hkl : k < m.to.length
        · obtain ⟨p, hp⟩ : ∃ p, p = m.to.getD k V.noPath := ⟨_, rfl⟩
          obtain ⟨ad1, rfl, hp0, hp1, hp2⟩ := path_at HML.out.tos k hkl p hp
          have f0 := cell_up H3.out.1.be hp0
          have f1 := cell_up H3.out.1.be hp1
          have f2 := cell_up H3.out.1.be hp2
          have hkl' : (k : Int) < (m.to.length : Int) := by omega
          have hk0 : (0 : Int) ≤ (k : Int) := by omega
          have hpm : p ∈ m.to := by rw [hp]; exact getD_mem m.to k hkl _
          have hfp : B.fitP p := HFX.out.tos _ hpm
          have hft := flat_take B.toLine m.to k hkl V.noPath
          rw [← hp] at hft
          have HFK := Aside0.mk hft
          obtain ⟨by2, hby⟩ : ∃ by2, by2 = V.rtext p := ⟨_, rfl⟩
          have hbb : by2 = B.box p := by rw [hby, box_rtext (HRP.out.2.1 p hpm)]
          have hbl := box_len hfp
          rw [← hbb] at hbl
          have hpt : ∀ W, Calls Tryz.prog 55 #[.agg #[.bool p.null, .string (str p.loc), .string (str p.dom)]] W fun e w' => e = .returned (.string (str by2)) ∧ Below W.heap.size W w' := fun W => by rw [hby]; exact rtext_any p W hfp.1 hfp.2
          have HPT2 := Aside0.mk hpt
          have k1 := kat (a := B.wTo) (b := by2) (x := ⟨#[82, 67, 80, 84, 32, 84, 79, 58]⟩) (y := str by2) rfl rfl (by decide) (by omega)
          have k2 := kat (a := B.wTo ++ by2) (b := [13, 10]) (x := str (B.wTo ++ by2)) (y := ⟨#[13, 10]⟩) rfl rfl (by have : B.wTo.length = 8 := rfl; rw [List.length_append]; omega) (by decide)
          obtain ⟨s3, hs3⟩ : ∃ s3, s3 = str (B.wTo ++ by2) := ⟨_, rfl⟩
          obtain ⟨l4, hl4⟩ : ∃ l4, l4 = B.wTo ++ by2 ++ [13, 10] := ⟨_, rfl⟩
          have hl4l : l4.length ≤ 300000 := by have : B.wTo.length = 8 := rfl; rw [hl4, List.length_append, List.length_append]; simp; omega
          rw [← hs3] at k1 k2
          rw [← hl4] at k2
          have HL4 := Aside0.mk hl4l
          have HLL4 := Aside0.mk (show l4 = B.toLine p by rw [hl4, hbb]; rfl)
          clear hpt hby hbb hbl hs3 hl4 hl4l hft hp hp0 hp1 hp2 hfp hkl hpm
          go_wp2_with (first | (go_at_call 55; (with_reducible refine Calls.mono (HPT2.out _) ?_); rintro r w4 ⟨rfl, h⟩; have HD4 := Aside0.mk (H3.out.1.go h); have HR4 := Aside0.mk (row_on h H3.out.2); clear h) | ((with_reducible refine gate_builtin (b := .append) (xs := #[.tmp 33, .tmp 41]) rfl ?_); at_builtin; refine bd_append_str rfl (.tmp 33) (.tmp 41) rfl _ _ l4 rfl rfl HD4.out (by have := HOL3.out; have := HL4.out; omega) ?_; intro v5 w5 h hg; have HD5 := Aside0.mk h; have HR5 := Aside0.mk (HD4.out.row hg (by decide) HR4.out); clear h hg))
          go_roundg (gi - 1)
          case measure => omega
          case rel =>
            refine ⟨k + 1, by go_num, by omega, by omega, ⟨?_, HR5.out⟩⟩
            have h5 := HD5.out
            rw [HOUT3.out, HLL4.out] at h5
            rw [HFK.out]
            simpa using h5
        · have hke : k = m.to.length := by omega
          have t1 : decide ((k : Int) < (m.to.length : Int)) = false := by simp; omega
          have t2 : decide (k < m.to.length) = false := by simp; omega
          obtain ⟨st, hst⟩ : ∃ st, st = B.stuff m.body := ⟨_, rfl⟩
          have hsl : st.length ≤ 10001000000 := by rw [hst]; exact stuff_len HFX.out.body
          have hsf : ∀ W, Below w0.heap.size w0 W → Calls Tryz.prog 56 #[.slice A2 m.body.length c2] W fun e w' => (∃ A' c', e = .returned (.slice A' st.length c') ∧ Bt w' A' c' st) ∧ Below W.heap.size W w' := fun W hW => by
            refine (rstuff_any (HML.out.body.on hW) (by have := HFX.out.body; omega) HRP.out.2.2).mono ?_
            rintro e w' ⟨⟨v, rfl, h1⟩, h2⟩
            rw [← hst] at h1
            obtain ⟨A', c', rfl, h3⟩ := Ow.bt h1
            exact ⟨⟨A', c', rfl, h3⟩, h2⟩
          have HSF := Aside0.mk hsf
          have HSL := Aside0.mk hsl
          have h6 : out3 ++ [68, 65, 84, 65, 13, 10] ++ st = out ++ B.mailBytes m := by
            rw [HOUT3.out, hke, List.take_length, HLL.out, hst]
            unfold B.mailBytes B.wData
            rw [if_pos HRP.out.2.2]
            simp only [List.append_assoc]
          have HEQ := Aside0.mk h6
          have HS := Aside0.mk (fun (W : World) (hW : W.heap[gm]? = some (.cells #[.bool m.frm.null, .string (str m.frm.loc), .string (str m.frm.dom), .slice A1 m.to.length c1, .slice A2 m.body.length c2, .bool m.quiet, .string (str m.helo), .int .i64 m.tm] 46 (0, 0))) => (cells8 hW).1.2.2.2.2.1)
          clear hst hsl hsf hke h6 hkl
          go_upto_region 11 with (fail)
          refine wp_region_held_drew (S := (fun w' => w'.cell? ⟨gm, 4, none⟩ = some (.slice A2 m.body.length c2))) (by kernel_rfl) ?_ (fun hHeld => ?_)
          · first | exact HS.out _ H3.out.2 | exact HS.out _ HR7.out | exact HS.out _ HR8.out | exact HS.out _ HR9.out
          refine wpAnyH_take (i := 0) (oi := _) (v := ?_) rfl (by kernel_rfl) (by kernel_rfl) (by kernel_rfl) (fun _ _ _ h => h) (Or.inl ⟨by rfl, ?_⟩) (by assumption) ?_
          case refine_2 => (intro w hSw; (try dsimp only [List.getElem_toArray, List.getElem_cons_zero, List.getElem_cons_succ] at hSw ⊢); go_simp; (try with_reducible rfl))
          try simp only [Act.put, List.getElem_toArray, List.getElem_cons_zero, List.getElem_cons_succ, List.setIfInBounds_toArray, List.set_cons_zero, List.set_cons_succ]
          refine wpAnyH_take (i := 2) (oi := _) (v := ?_) rfl (by kernel_rfl) (by kernel_rfl) (by kernel_rfl) (fun _ _ _ h => h) (Or.inl ⟨by rfl, ?_⟩) (by assumption) ?_
          case refine_2 => (intro w hSw; (try dsimp only [List.getElem_toArray, List.getElem_cons_zero, List.getElem_cons_succ] at hSw ⊢); go_simp; (try with_reducible rfl))
          try simp only [Act.put, List.getElem_toArray, List.getElem_cons_zero, List.getElem_cons_succ, List.setIfInBounds_toArray, List.set_cons_zero, List.set_cons_succ]
          refine wpAnyH_take (i := 3) (oi := _) (v := ?_) rfl (by kernel_rfl) (by kernel_rfl) (by kernel_rfl) (fun _ _ _ h => h) (Or.inl ⟨by rfl, ?_⟩) (by assumption) ?_
          case refine_2 => (intro w hSw; (try dsimp only [List.getElem_toArray, List.getElem_cons_zero, List.getElem_cons_succ] at hSw ⊢); go_simp; (try with_reducible rfl))
          try simp only [Act.put, List.getElem_toArray, List.getElem_cons_zero, List.getElem_cons_succ, List.setIfInBounds_toArray, List.set_cons_zero, List.set_cons_succ]
          refine wpAnyH_ready (rs := [1]) (by kernel_rfl) (by simp) ?_
          refine (AllReadyH.cons (o := _) (by simp only [List.getElem?_toArray, List.getElem?_cons_zero, List.getElem?_cons_succ]; rfl) (fun K hK => ?_) AllReadyH.nil)
          refine bd_append_str_step (by rfl) (.tmp 43) (.const (.string { data := #[68, 65, 84, 65, 13, 10] })) rfl _ _ [68, 65, 84, 65, 13, 10] rfl rfl (H3.out.1.go ((Below.refl wz.heap.size wz).drew)) (by have := HOL3.out; simp; omega) ?_
          intro v7 w7 hd7 hg7
          have HD7 := Aside0.mk hd7
          have HR7 := Aside0.mk ((H3.out.1.go ((Below.refl wz.heap.size wz).drew)).row hg7 (by decide) H3.out.2)
          clear hd7 hg7
          refine hK.out _ _ ?_ (fun hHeld2 => ?_)
          · first | exact HS.out _ H3.out.2 | exact HS.out _ HR7.out | exact HS.out _ HR8.out | exact HS.out _ HR9.out
          clear hK K hHeld
          have hHeld := hHeld2
          clear hHeld2
          try simp only [Act.put, List.getElem_toArray, List.getElem_cons_zero, List.getElem_cons_succ, List.setIfInBounds_toArray, List.set_cons_zero, List.set_cons_succ]
          refine wpAnyH_ready (rs := [4]) (by kernel_rfl) (by simp) ?_
          refine (AllReadyH.cons (o := _) (by simp only [List.getElem?_toArray, List.getElem?_cons_zero, List.getElem?_cons_succ]; rfl) (fun K hK => ?_) AllReadyH.nil)
          go_simp
          go_at_call 56
          (with_reducible refine Calls.mono (HSF.out _ HD7.out.be) ?_)
          rintro e w8 ⟨⟨A8, c8, rfl, hb8⟩, h⟩
          have HD8 := Aside0.mk (HD7.out.go h)
          have HB8 := Aside0.mk hb8
          have HR8 := Aside0.mk (row_on h HR7.out)
          clear hb8 h
          go_wp2_with (fail)
          refine hK.out _ _ ?_ (fun hHeld2 => ?_)
          · first | exact HS.out _ H3.out.2 | exact HS.out _ HR7.out | exact HS.out _ HR8.out | exact HS.out _ HR9.out
          clear hK K hHeld
          have hHeld := hHeld2
          clear hHeld2
          try simp only [Act.put, List.getElem_toArray, List.getElem_cons_zero, List.getElem_cons_succ, List.setIfInBounds_toArray, List.set_cons_zero, List.set_cons_succ]
          refine wpAnyH_ready (rs := [5]) (by kernel_rfl) (by simp) ?_
          refine (AllReadyH.cons (o := _) (by simp only [List.getElem?_toArray, List.getElem?_cons_zero, List.getElem?_cons_succ]; rfl) (fun K hK => ?_) AllReadyH.nil)
          refine bd_append2_step (by rfl) (.tmp 44) (.tmp 47) rfl _ _ st A8 _ c8 rfl rfl rfl HD8.out HB8.out (by have := HOL3.out; have := HSL.out; simp; omega) ?_
          intro v9 w9 hd9 hg9
          have HD9 := Aside0.mk hd9
          have HR9 := Aside0.mk (HD8.out.row hg9 (by decide) HR8.out)
          clear hd9 hg9
          refine hK.out _ _ ?_ (fun hHeld2 => ?_)
          · first | exact HS.out _ H3.out.2 | exact HS.out _ HR7.out | exact HS.out _ HR8.out | exact HS.out _ HR9.out
          clear hK K hHeld
          have hHeld := hHeld2
          clear hHeld2
          try simp only [Act.put, List.getElem_toArray, List.getElem_cons_zero, List.getElem_cons_succ, List.setIfInBounds_toArray, List.set_cons_zero, List.set_cons_succ]
          refine wpAnyH_take (i := 6) (oi := _) (v := ?_) rfl (by kernel_rfl) (by kernel_rfl) (by kernel_rfl) (fun _ _ _ h => h) (Or.inl ⟨by rfl, ?_⟩) (by assumption) ?_
          case refine_2 => (intro w hSw; (try dsimp only [List.getElem_toArray, List.getElem_cons_zero, List.getElem_cons_succ] at hSw ⊢); go_simp; (try with_reducible rfl))
          try simp only [Act.put, List.getElem_toArray, List.getElem_cons_zero, List.getElem_cons_succ, List.setIfInBounds_toArray, List.set_cons_zero, List.set_cons_succ]
          refine wpAnyH_done (by kernel_rfl) ?_ _
          go_wp2_with (fail)
          go_roundg (go - 1)
          case measure => omega
          case rel =>
            refine ⟨n + 1, by go_num, by omega, by omega, ⟨?_⟩⟩
            have h9 := HD9.out
            rw [HEQ.out] at h9
            rw [HFT.out]
            exact h9
    · have hne : n = b.mails.length := by omega
      have t1 : decide ((n : Int) < (b.mails.length : Int)) = false := by simp; omega
      have t2 : decide (n < b.mails.length) = false := by simp; omega
      have h6 : out ++ [81, 85, 73, 84, 13, 10] = B.commands b.mails := by
        rw [HOUT.out, hne, List.take_length]
        rfl
      have HEQ := Aside0.mk h6
      clear hne h6 hlt
      go_wp2_with (first | ((with_reducible refine gate_builtin (b := .append) (xs := #[.tmp 49, .const (.string { data := #[81, 85, 73, 84, 13, 10] })]) rfl ?_); at_builtin; refine bd_append_str rfl (.tmp 49) (.const (.string { data := #[81, 85, 73, 84, 13, 10] })) rfl _ _ [81, 85, 73, 84, 13, 10] rfl rfl H.out (by have := HOL.out; simp; omega) ?_; intro v7 w7 h hg; have HD7 := Aside0.mk h; clear h hg))
      go_ret
      refine ⟨⟨_, rfl, ?_⟩, HWB.out.trans (HD7.out.be.mono HWB.out.size)⟩
      have h7 := HD7.out.ow
      rw [HEQ.out] at h7
      exact h7.low HWB.out.size
end Go.Proofs.YtpfmnkpmidjfjaaGreatDoor
/- What the reference's BundleBytes answers. -/
namespace Go.Proofs.YtpfmnkpmidjfjaaGreatDoor
open Go.RowKit Go.Lib
open Go.Proofs.YtpfmnkpmidjfjaaGreatDoorW.PrintWords
set_option linter.unusedVariables false
set_option linter.unusedSimpArgs false
theorem kat2 {a b : V.Bs} {x y : ByteArray} (hx : x = str a) (hy : y = str b) (ha : a.length ≤ 1000000) (hb : b.length ≤ 1000000) : ∃ z, z = str (a ++ b) ∧ ∀ w, (Op.stringOp .add x y).run Tryz.prog w = .ok (.string z) w := ⟨_, rfl, kat hx hy ha hb⟩
theorem itoa_small (n : Int) (h0 : 0 ≤ n) (h1 : n < 1000000000000000) : Lib.itoa n = Lib.decDigits n.toNat ∧ (Lib.itoa n).length ≤ 15 := by
  have e : Lib.itoa n = Lib.decDigits n.toNat := by
    unfold Lib.itoa
    rw [if_neg (by omega)]
  exact ⟨e, by rw [e]; exact digits_len n.toNat 14 (by omega)⟩
/-- Digits, of a number in a name: the text too in a name. -/
theorem digits_at (n : Int) (h0 : 0 ≤ n) (h1 : n < 1000000000000000) : ∃ (e : B.Bs) (s : ByteArray), e = Lib.itoa n ∧ s = str e ∧ e.length ≤ 15 ∧ ∀ w, Calls Tryz.prog 27 #[.int .i64 n] w fun e w' => e = .returned (.string s) ∧ Below w.heap.size w w' := by
  have h := itoa_small n h0 h1
  refine ⟨_, _, rfl, rfl, h.2, fun w => ?_⟩
  have hd := digits_any n.toNat (by omega) w
  rw [show ((n.toNat : Nat) : Int) = n by omega, ← h.1] at hd
  exact hd
set_option maxRecDepth 100000 in
set_option maxHeartbeats 8000000 in
theorem rbytes_any (b : B.Bundle) (A : Option Addr) (c : Nat) (w : World) (h : Bn w b A c) (hf : B.FitB b) :
    Calls Tryz.prog 14 #[.agg #[.int .i64 b.origin, .int .i64 b.number, .slice A b.mails.length c]] w fun e w' => (∃ A1 c1, e = .returned (.tuple #[.slice A1 (B.bytes b).1.length c1, .int .i64 (B.bytes b).2]) ∧ Bt w' A1 c1 (B.bytes b).1) ∧ Below w.heap.size w w' := by
  obtain ⟨X, hX⟩ : ∃ X, X = B.bytes b := ⟨_, rfl⟩
  rw [← hX]
  obtain ⟨w0, hw0⟩ : ∃ w0, w0 = w.alloc (.cells #[.int .i64 b.origin, .int .i64 b.number, .slice A b.mails.length c] 24) := ⟨_, rfl⟩
  have HWB := Aside0.mk (show Below w.heap.size w w0 by rw [hw0]; exact (Below.refl _ _).alloc (Nat.le_refl _) _)
  have HR := Aside0.mk (show w0.heap[w.heap.size]? = some (.cells #[.int .i64 b.origin, .int .i64 b.number, .slice A b.mails.length c] 24 (0, 0)) by rw [hw0]; exact heap_alloc_new _ _)
  have HW0 := Aside0.mk hw0
  have HB := Aside0.mk (h.on HWB.out)
  have hbd := rbundle_any b A c w0 HB.out hf
  cases hck : B.check b with
  | false =>
    have hX2 : X = ([], 5) := by rw [hX]; unfold B.bytes; rw [hck]; rfl
    have HX := Aside0.mk hX2
    rw [hck] at hbd
    have HBD := Aside0.mk hbd
    clear hX hX2 hbd hck h hf hw0
    go_enter Tryz.func14, Tryz.ntmps14
    go_upto_region 1 with (fail)
    rw [← HW0.out]
    obtain ⟨b0, b1, b2, g0, g1, g2⟩ := cells3 HR.out
    go_wp2_with (first | (go_at_call 20; (with_reducible refine Calls.mono HBD.out ?_); rintro r w1 ⟨rfl, h⟩; have H1 := Aside0.mk h; clear h))
    go_ret2
    refine ⟨⟨none, 0, by rw [HX.out]; rfl, ?_⟩, HWB.out.trans (H1.out.mono HWB.out.size)⟩
    rw [HX.out]
    exact Bt.none _
  | true =>
    obtain ⟨cm, hcm⟩ : ∃ cm, cm = B.commands b.mails := ⟨_, rfl⟩
    have hX2 : X = if 4096 < (B.head b cm ++ cm).length then ([], 2) else (B.head b cm ++ cm, 0) := by rw [hX, hcm]; unfold B.bytes; rw [hck]; rfl
    have hrt : ∀ m ∈ b.mails, B.right m = true := by
      unfold B.check at hck
      simp only [Bool.and_eq_true, List.all_eq_true] at hck
      exact hck.2.2.2.2.2.2
    have hrng := check_ranges hck
    have hcl := commands_len hf
    have hcp := commands_pos b.mails
    rw [← hcm] at hcl hcp
    have hcc : ∀ W, Below w0.heap.size w0 W → Calls Tryz.prog 33 #[.agg #[.int .i64 b.origin, .int .i64 b.number, .slice A b.mails.length c]] W fun e w' => (∃ v, e = .returned v ∧ Ow W.heap.size w' v cm) ∧ Below W.heap.size W w' := fun W hW => by rw [hcm]; exact rcommands_any b A c W (HB.out.on hW) hf hrt
    rw [hck] at hbd
    have HBD := Aside0.mk hbd
    have HX := Aside0.mk hX2
    have HCC := Aside0.mk hcc
    have HCL := Aside0.mk hcl
    have HCP := Aside0.mk hcp
    have HF := Aside0.mk hf
    clear hX hX2 hbd hck h hf hw0 hrt hcl hcp hcc hcm
    go_enter Tryz.func14, Tryz.ntmps14
    go_upto_region 1 with (fail)
    rw [← HW0.out]
    obtain ⟨b0, b1, b2, g0, g1, g2⟩ := cells3 HR.out
    go_upto_region 4 with (first | (go_at_call 20; (with_reducible refine Calls.mono HBD.out ?_); rintro r w1 ⟨rfl, h⟩; have H1 := Aside0.mk h; (clear b0 b1 b2 g0 g1 g2); obtain ⟨b0, b1, b2, g0, g1, g2⟩ := cells3 (row_on h HR.out); clear h) | (go_at_call 33; (with_reducible refine Calls.mono (HCC.out _ H1.out) ?_); rintro r w2 ⟨⟨v, rfl, ho⟩, h⟩; have H2 := Aside0.mk (H1.out.trans (h.mono H1.out.size)); obtain ⟨A5, c5, rfl, hb5⟩ := Ow.bt ho; have HC5 := Aside0.mk hb5; clear h ho hb5))
    have HR2 := Aside0.mk (row_on H2.out HR.out)
    clear b0 b1 b2 g0 g1 g2
    have hcl := HCL.out
    have hcp := HCP.out
    · have HLG := Aside0.mk (fun W (hW : Below w2.heap.size w2 W) => rlong_any (HC5.out.on hW) (by omega))
      have hlt := B.long_lt cm
      obtain ⟨e1, s1, he1, hs1, hl1, hd1⟩ := digits_at b.origin (by omega) (by omega)
      obtain ⟨e2, s2, he2, hs2, hl2, hd2⟩ := digits_at b.number (by omega) (by omega)
      obtain ⟨e3, s3, he3, hs3, hl3, hd3⟩ := digits_at (b.mails.length : Int) (by omega) (by omega)
      obtain ⟨e4, s4, he4, hs4, hl4, hd4⟩ := digits_at (cm.length : Int) (by omega) (by omega)
      obtain ⟨e5, s5, he5, hs5, hl5, hd5⟩ := digits_at ((B.long cm : Nat) : Int) (by omega) (by omega)
      have HD1 := Aside0.mk hd1
      have HD2 := Aside0.mk hd2
      have HD3 := Aside0.mk hd3
      have HD4 := Aside0.mk hd4
      have HD5 := Aside0.mk hd5
      obtain ⟨z1, hz1, k1⟩ := kat2 (a := (B.wBundle ++ [32])) (b := e1) (x := (⟨#[66, 85, 78, 68, 76, 69, 32]⟩ : ByteArray)) (y := s1) rfl hs1 (by simp [B.wBundle] <;> omega) (by omega)
      obtain ⟨z2, hz2, k2⟩ := kat2 (a := ((B.wBundle ++ [32]) ++ e1)) (b := [32]) (x := z1) (y := ⟨#[32]⟩) hz1 rfl (by simp [B.wBundle] <;> omega) (by decide)
      obtain ⟨z3, hz3, k3⟩ := kat2 (a := (((B.wBundle ++ [32]) ++ e1) ++ [32])) (b := e2) (x := z2) (y := s2) hz2 hs2 (by simp [B.wBundle] <;> omega) (by omega)
      obtain ⟨z4, hz4, k4⟩ := kat2 (a := ((((B.wBundle ++ [32]) ++ e1) ++ [32]) ++ e2)) (b := [32]) (x := z3) (y := ⟨#[32]⟩) hz3 rfl (by simp [B.wBundle] <;> omega) (by decide)
      obtain ⟨z5, hz5, k5⟩ := kat2 (a := (((((B.wBundle ++ [32]) ++ e1) ++ [32]) ++ e2) ++ [32])) (b := e3) (x := z4) (y := s3) hz4 hs3 (by simp [B.wBundle] <;> omega) (by omega)
      obtain ⟨z6, hz6, k6⟩ := kat2 (a := ((((((B.wBundle ++ [32]) ++ e1) ++ [32]) ++ e2) ++ [32]) ++ e3)) (b := [32]) (x := z5) (y := ⟨#[32]⟩) hz5 rfl (by simp [B.wBundle] <;> omega) (by decide)
      obtain ⟨z7, hz7, k7⟩ := kat2 (a := (((((((B.wBundle ++ [32]) ++ e1) ++ [32]) ++ e2) ++ [32]) ++ e3) ++ [32])) (b := e4) (x := z6) (y := s4) hz6 hs4 (by simp [B.wBundle] <;> omega) (by omega)
      obtain ⟨z8, hz8, k8⟩ := kat2 (a := ((((((((B.wBundle ++ [32]) ++ e1) ++ [32]) ++ e2) ++ [32]) ++ e3) ++ [32]) ++ e4)) (b := [32]) (x := z7) (y := ⟨#[32]⟩) hz7 rfl (by simp [B.wBundle] <;> omega) (by decide)
      obtain ⟨z9, hz9, k9⟩ := kat2 (a := (((((((((B.wBundle ++ [32]) ++ e1) ++ [32]) ++ e2) ++ [32]) ++ e3) ++ [32]) ++ e4) ++ [32])) (b := e5) (x := z8) (y := s5) hz8 hs5 (by simp [B.wBundle] <;> omega) (by omega)
      obtain ⟨z10, hz10, k10⟩ := kat2 (a := ((((((((((B.wBundle ++ [32]) ++ e1) ++ [32]) ++ e2) ++ [32]) ++ e3) ++ [32]) ++ e4) ++ [32]) ++ e5)) (b := [13, 10]) (x := z9) (y := ⟨#[13, 10]⟩) hz9 rfl (by simp [B.wBundle] <;> omega) (by decide)
      have heq : (((((((((((B.wBundle ++ [32]) ++ e1) ++ [32]) ++ e2) ++ [32]) ++ e3) ++ [32]) ++ e4) ++ [32]) ++ e5) ++ [13, 10]) = B.head b cm := by
        unfold B.head B.nums
        rw [he1, he2, he3, he4, he5]
        simp [B.crlf]
      rw [heq] at hz10
      subst hz10
      have hhl : (B.head b cm).length ≤ 300 := by rw [← heq]; simp [B.wBundle]; omega
      have hconv := conv_run (str (B.head b cm))
      have HHL := Aside0.mk hhl
      have HS := Aside0.mk (fun W (hW : Below w2.heap.size w2 W) => let ⟨x0, x1, x2, _⟩ := cells3 (row_on hW HR2.out); And.intro x0 (And.intro x1 x2))
      have HW := Aside0.mk (Below.refl w2.heap.size w2)
      clear hd1 hd2 hd3 hd4 hd5 he1 he2 he3 he4 he5 heq hhl hl1 hl2 hl3 hl4 hl5 hz1 hz2 hz3 hz4 hz5 hz6 hz7 hz8 hz9 hs1 hs2 hs3 hs4 hs5
      refine wp_region_held_drew (S := (fun w' => w'.cell? ⟨w.heap.size, 0, none⟩ = some (.int .i64 b.origin) ∧ w'.cell? ⟨w.heap.size, 1, none⟩ = some (.int .i64 b.number) ∧ w'.cell? ⟨w.heap.size, 2, none⟩ = some (.slice A b.mails.length c))) (by kernel_rfl) ?_ (fun hHeld => ?_)
      · first | exact HS.out _ (HW.out.drew) | exact HS.out _ HW.out | exact HS.out _ (HW.out.trans (HWc.out.mono HW.out.size))
      refine wpAnyH_take (i := 0) (oi := _) (v := ?_) rfl (by kernel_rfl) (by kernel_rfl) (by kernel_rfl) (fun _ _ _ h => h) (Or.inl ⟨by rfl, ?_⟩) (by assumption) ?_
      case refine_2 => (intro w hSw; (try dsimp only [List.getElem_toArray, List.getElem_cons_zero, List.getElem_cons_succ] at hSw ⊢); go_simp; (try with_reducible rfl))
      try simp only [Act.put, List.getElem_toArray, List.getElem_cons_zero, List.getElem_cons_succ, List.setIfInBounds_toArray, List.set_cons_zero, List.set_cons_succ]
      refine wpAnyH_take (i := 1) (oi := _) (v := ?_) rfl (by kernel_rfl) (by kernel_rfl) (by kernel_rfl) (fun _ _ _ h => h) (Or.inl ⟨by rfl, ?_⟩) (by assumption) ?_
      case refine_2 => (intro w hSw; (try dsimp only [List.getElem_toArray, List.getElem_cons_zero, List.getElem_cons_succ] at hSw ⊢); go_simp; (try with_reducible rfl))
      try simp only [Act.put, List.getElem_toArray, List.getElem_cons_zero, List.getElem_cons_succ, List.setIfInBounds_toArray, List.set_cons_zero, List.set_cons_succ]
      refine wpAnyH_take (i := 5) (oi := _) (v := ?_) rfl (by kernel_rfl) (by kernel_rfl) (by kernel_rfl) (fun _ _ _ h => h) (Or.inl ⟨by rfl, ?_⟩) (by assumption) ?_
      case refine_2 => (intro w hSw; (try dsimp only [List.getElem_toArray, List.getElem_cons_zero, List.getElem_cons_succ] at hSw ⊢); go_simp; (try with_reducible rfl))
      try simp only [Act.put, List.getElem_toArray, List.getElem_cons_zero, List.getElem_cons_succ, List.setIfInBounds_toArray, List.set_cons_zero, List.set_cons_succ]
      refine wpAnyH_take (i := 6) (oi := _) (v := ?_) rfl (by kernel_rfl) (by kernel_rfl) (by kernel_rfl) (fun _ _ _ h => h) (Or.inl ⟨by rfl, ?_⟩) (by assumption) ?_
      case refine_2 => (intro w hSw; (try dsimp only [List.getElem_toArray, List.getElem_cons_zero, List.getElem_cons_succ] at hSw ⊢); go_simp; (try with_reducible rfl))
      try simp only [Act.put, List.getElem_toArray, List.getElem_cons_zero, List.getElem_cons_succ, List.setIfInBounds_toArray, List.set_cons_zero, List.set_cons_succ]
      refine wpAnyH_take (i := 10) (oi := _) (v := ?_) rfl (by kernel_rfl) (by kernel_rfl) (by kernel_rfl) (fun _ _ _ h => h) (Or.inl ⟨by rfl, ?_⟩) (by assumption) ?_
      case refine_2 => (intro w hSw; (try dsimp only [List.getElem_toArray, List.getElem_cons_zero, List.getElem_cons_succ] at hSw ⊢); go_simp; (try with_reducible rfl))
      try simp only [Act.put, List.getElem_toArray, List.getElem_cons_zero, List.getElem_cons_succ, List.setIfInBounds_toArray, List.set_cons_zero, List.set_cons_succ]
      refine wpAnyH_take (i := 11) (oi := _) (v := ?_) rfl (by kernel_rfl) (by kernel_rfl) (by kernel_rfl) (fun _ _ _ h => h) (Or.inl ⟨by rfl, ?_⟩) (by assumption) ?_
      case refine_2 => (intro w hSw; (try dsimp only [List.getElem_toArray, List.getElem_cons_zero, List.getElem_cons_succ] at hSw ⊢); go_simp; (try with_reducible rfl))
      try simp only [Act.put, List.getElem_toArray, List.getElem_cons_zero, List.getElem_cons_succ, List.setIfInBounds_toArray, List.set_cons_zero, List.set_cons_succ]
      refine wpAnyH_take (i := 12) (oi := _) (v := ?_) rfl (by kernel_rfl) (by kernel_rfl) (by kernel_rfl) (fun _ _ _ h => h) (Or.inl ⟨by rfl, ?_⟩) (by assumption) ?_
      case refine_2 => (intro w hSw; (try dsimp only [List.getElem_toArray, List.getElem_cons_zero, List.getElem_cons_succ] at hSw ⊢); go_simp; (try with_reducible rfl))
      try simp only [Act.put, List.getElem_toArray, List.getElem_cons_zero, List.getElem_cons_succ, List.setIfInBounds_toArray, List.set_cons_zero, List.set_cons_succ]
      refine wpAnyH_take (i := 16) (oi := _) (v := ?_) rfl (by kernel_rfl) (by kernel_rfl) (by kernel_rfl) (fun _ _ _ h => h) (Or.inl ⟨by rfl, ?_⟩) (by assumption) ?_
      case refine_2 => (intro w hSw; (try dsimp only [List.getElem_toArray, List.getElem_cons_zero, List.getElem_cons_succ] at hSw ⊢); go_simp; (try with_reducible rfl))
      try simp only [Act.put, List.getElem_toArray, List.getElem_cons_zero, List.getElem_cons_succ, List.setIfInBounds_toArray, List.set_cons_zero, List.set_cons_succ]
      refine wpAnyH_take (i := 17) (oi := _) (v := ?_) rfl (by kernel_rfl) (by kernel_rfl) (by kernel_rfl) (fun _ _ _ h => h) (Or.inl ⟨by rfl, ?_⟩) (by assumption) ?_
      case refine_2 => (intro w hSw; (try dsimp only [List.getElem_toArray, List.getElem_cons_zero, List.getElem_cons_succ] at hSw ⊢); go_simp; (try with_reducible rfl))
      try simp only [Act.put, List.getElem_toArray, List.getElem_cons_zero, List.getElem_cons_succ, List.setIfInBounds_toArray, List.set_cons_zero, List.set_cons_succ]
      refine wpAnyH_take (i := 21) (oi := _) (v := ?_) rfl (by kernel_rfl) (by kernel_rfl) (by kernel_rfl) (fun _ _ _ h => h) (Or.inl ⟨by rfl, ?_⟩) (by assumption) ?_
      case refine_2 => (intro w hSw; (try dsimp only [List.getElem_toArray, List.getElem_cons_zero, List.getElem_cons_succ] at hSw ⊢); go_simp; (try with_reducible rfl))
      try simp only [Act.put, List.getElem_toArray, List.getElem_cons_zero, List.getElem_cons_succ, List.setIfInBounds_toArray, List.set_cons_zero, List.set_cons_succ]
      refine wpAnyH_ready (rs := [2]) (by kernel_rfl) (by simp) ?_
      refine (AllReadyH.cons (o := _) (by simp only [List.getElem?_toArray, List.getElem?_cons_zero, List.getElem?_cons_succ]; rfl) (fun K hK => ?_) AllReadyH.nil)
      go_simp
      go_at_call 27
      (with_reducible refine Calls.mono (HD1.out _) ?_)
      rintro e wn ⟨rfl, h⟩
      have HWn := Aside0.mk (HW.out.drew.trans (h.mono HW.out.size))
      clear HW h
      obtain ⟨wm, rfl⟩ : ∃ wz : World, wz = wn := ⟨_, rfl⟩
      have HW := Aside0.mk HWn.out
      clear HWn
      go_wp2_with (fail)
      refine hK.out _ _ ?_ (fun hHeld2 => ?_)
      · first | exact HS.out _ (HW.out.drew) | exact HS.out _ HW.out | exact HS.out _ (HW.out.trans (HWc.out.mono HW.out.size))
      clear hK K hHeld
      have hHeld := hHeld2
      clear hHeld2
      try simp only [Act.put, List.getElem_toArray, List.getElem_cons_zero, List.getElem_cons_succ, List.setIfInBounds_toArray, List.set_cons_zero, List.set_cons_succ]
      refine wpAnyH_take (i := 3) (oi := _) (v := ?_) rfl (by kernel_rfl) (by kernel_rfl) (by kernel_rfl) (fun _ _ _ h => h) (Or.inl ⟨by rfl, ?_⟩) (by assumption) ?_
      case refine_2 => (intro w hSw; (try dsimp only [List.getElem_toArray, List.getElem_cons_zero, List.getElem_cons_succ] at hSw ⊢); go_simp; (try with_reducible rfl))
      try simp only [Act.put, List.getElem_toArray, List.getElem_cons_zero, List.getElem_cons_succ, List.setIfInBounds_toArray, List.set_cons_zero, List.set_cons_succ]
      refine wpAnyH_take (i := 4) (oi := _) (v := ?_) rfl (by kernel_rfl) (by kernel_rfl) (by kernel_rfl) (fun _ _ _ h => h) (Or.inl ⟨by rfl, ?_⟩) (by assumption) ?_
      case refine_2 => (intro w hSw; (try dsimp only [List.getElem_toArray, List.getElem_cons_zero, List.getElem_cons_succ] at hSw ⊢); go_simp; (try with_reducible rfl))
      try simp only [Act.put, List.getElem_toArray, List.getElem_cons_zero, List.getElem_cons_succ, List.setIfInBounds_toArray, List.set_cons_zero, List.set_cons_succ]
      refine wpAnyH_ready (rs := [7]) (by kernel_rfl) (by simp) ?_
      refine (AllReadyH.cons (o := _) (by simp only [List.getElem?_toArray, List.getElem?_cons_zero, List.getElem?_cons_succ]; rfl) (fun K hK => ?_) AllReadyH.nil)
      go_simp
      go_at_call 27
      (with_reducible refine Calls.mono (HD2.out _) ?_)
      rintro e wn ⟨rfl, h⟩
      have HWn := Aside0.mk (HW.out.trans (h.mono HW.out.size))
      clear HW h
      obtain ⟨wm, rfl⟩ : ∃ wz : World, wz = wn := ⟨_, rfl⟩
      have HW := Aside0.mk HWn.out
      clear HWn
      go_wp2_with (fail)
      refine hK.out _ _ ?_ (fun hHeld2 => ?_)
      · first | exact HS.out _ (HW.out.drew) | exact HS.out _ HW.out | exact HS.out _ (HW.out.trans (HWc.out.mono HW.out.size))
      clear hK K hHeld
      have hHeld := hHeld2
      clear hHeld2
      try simp only [Act.put, List.getElem_toArray, List.getElem_cons_zero, List.getElem_cons_succ, List.setIfInBounds_toArray, List.set_cons_zero, List.set_cons_succ]
      refine wpAnyH_take (i := 8) (oi := _) (v := ?_) rfl (by kernel_rfl) (by kernel_rfl) (by kernel_rfl) (fun _ _ _ h => h) (Or.inl ⟨by rfl, ?_⟩) (by assumption) ?_
      case refine_2 => (intro w hSw; (try dsimp only [List.getElem_toArray, List.getElem_cons_zero, List.getElem_cons_succ] at hSw ⊢); go_simp; (try with_reducible rfl))
      try simp only [Act.put, List.getElem_toArray, List.getElem_cons_zero, List.getElem_cons_succ, List.setIfInBounds_toArray, List.set_cons_zero, List.set_cons_succ]
      refine wpAnyH_take (i := 9) (oi := _) (v := ?_) rfl (by kernel_rfl) (by kernel_rfl) (by kernel_rfl) (fun _ _ _ h => h) (Or.inl ⟨by rfl, ?_⟩) (by assumption) ?_
      case refine_2 => (intro w hSw; (try dsimp only [List.getElem_toArray, List.getElem_cons_zero, List.getElem_cons_succ] at hSw ⊢); go_simp; (try with_reducible rfl))
      try simp only [Act.put, List.getElem_toArray, List.getElem_cons_zero, List.getElem_cons_succ, List.setIfInBounds_toArray, List.set_cons_zero, List.set_cons_succ]
      refine wpAnyH_ready (rs := [13]) (by kernel_rfl) (by simp) ?_
      refine (AllReadyH.cons (o := _) (by simp only [List.getElem?_toArray, List.getElem?_cons_zero, List.getElem?_cons_succ]; rfl) (fun K hK => ?_) AllReadyH.nil)
      go_simp
      go_at_call 27
      (with_reducible refine Calls.mono (HD3.out _) ?_)
      rintro e wn ⟨rfl, h⟩
      have HWn := Aside0.mk (HW.out.trans (h.mono HW.out.size))
      clear HW h
      obtain ⟨wm, rfl⟩ : ∃ wz : World, wz = wn := ⟨_, rfl⟩
      have HW := Aside0.mk HWn.out
      clear HWn
      go_wp2_with (fail)
      refine hK.out _ _ ?_ (fun hHeld2 => ?_)
      · first | exact HS.out _ (HW.out.drew) | exact HS.out _ HW.out | exact HS.out _ (HW.out.trans (HWc.out.mono HW.out.size))
      clear hK K hHeld
      have hHeld := hHeld2
      clear hHeld2
      try simp only [Act.put, List.getElem_toArray, List.getElem_cons_zero, List.getElem_cons_succ, List.setIfInBounds_toArray, List.set_cons_zero, List.set_cons_succ]
      refine wpAnyH_take (i := 14) (oi := _) (v := ?_) rfl (by kernel_rfl) (by kernel_rfl) (by kernel_rfl) (fun _ _ _ h => h) (Or.inl ⟨by rfl, ?_⟩) (by assumption) ?_
      case refine_2 => (intro w hSw; (try dsimp only [List.getElem_toArray, List.getElem_cons_zero, List.getElem_cons_succ] at hSw ⊢); go_simp; (try with_reducible rfl))
      try simp only [Act.put, List.getElem_toArray, List.getElem_cons_zero, List.getElem_cons_succ, List.setIfInBounds_toArray, List.set_cons_zero, List.set_cons_succ]
      refine wpAnyH_take (i := 15) (oi := _) (v := ?_) rfl (by kernel_rfl) (by kernel_rfl) (by kernel_rfl) (fun _ _ _ h => h) (Or.inl ⟨by rfl, ?_⟩) (by assumption) ?_
      case refine_2 => (intro w hSw; (try dsimp only [List.getElem_toArray, List.getElem_cons_zero, List.getElem_cons_succ] at hSw ⊢); go_simp; (try with_reducible rfl))
      try simp only [Act.put, List.getElem_toArray, List.getElem_cons_zero, List.getElem_cons_succ, List.setIfInBounds_toArray, List.set_cons_zero, List.set_cons_succ]
      refine wpAnyH_ready (rs := [18]) (by kernel_rfl) (by simp) ?_
      refine (AllReadyH.cons (o := _) (by simp only [List.getElem?_toArray, List.getElem?_cons_zero, List.getElem?_cons_succ]; rfl) (fun K hK => ?_) AllReadyH.nil)
      go_simp
      go_at_call 27
      (with_reducible refine Calls.mono (HD4.out _) ?_)
      rintro e wn ⟨rfl, h⟩
      have HWn := Aside0.mk (HW.out.trans (h.mono HW.out.size))
      clear HW h
      obtain ⟨wm, rfl⟩ : ∃ wz : World, wz = wn := ⟨_, rfl⟩
      have HW := Aside0.mk HWn.out
      clear HWn
      go_wp2_with (fail)
      refine hK.out _ _ ?_ (fun hHeld2 => ?_)
      · first | exact HS.out _ (HW.out.drew) | exact HS.out _ HW.out | exact HS.out _ (HW.out.trans (HWc.out.mono HW.out.size))
      clear hK K hHeld
      have hHeld := hHeld2
      clear hHeld2
      try simp only [Act.put, List.getElem_toArray, List.getElem_cons_zero, List.getElem_cons_succ, List.setIfInBounds_toArray, List.set_cons_zero, List.set_cons_succ]
      refine wpAnyH_take (i := 19) (oi := _) (v := ?_) rfl (by kernel_rfl) (by kernel_rfl) (by kernel_rfl) (fun _ _ _ h => h) (Or.inl ⟨by rfl, ?_⟩) (by assumption) ?_
      case refine_2 => (intro w hSw; (try dsimp only [List.getElem_toArray, List.getElem_cons_zero, List.getElem_cons_succ] at hSw ⊢); go_simp; (try with_reducible rfl))
      try simp only [Act.put, List.getElem_toArray, List.getElem_cons_zero, List.getElem_cons_succ, List.setIfInBounds_toArray, List.set_cons_zero, List.set_cons_succ]
      refine wpAnyH_take (i := 20) (oi := _) (v := ?_) rfl (by kernel_rfl) (by kernel_rfl) (by kernel_rfl) (fun _ _ _ h => h) (Or.inl ⟨by rfl, ?_⟩) (by assumption) ?_
      case refine_2 => (intro w hSw; (try dsimp only [List.getElem_toArray, List.getElem_cons_zero, List.getElem_cons_succ] at hSw ⊢); go_simp; (try with_reducible rfl))
      try simp only [Act.put, List.getElem_toArray, List.getElem_cons_zero, List.getElem_cons_succ, List.setIfInBounds_toArray, List.set_cons_zero, List.set_cons_succ]
      refine wpAnyH_ready (rs := [22]) (by kernel_rfl) (by simp) ?_
      refine (AllReadyH.cons (o := _) (by simp only [List.getElem?_toArray, List.getElem?_cons_zero, List.getElem?_cons_succ]; rfl) (fun K hK => ?_) AllReadyH.nil)
      go_simp
      go_at_call 28
      (with_reducible refine Calls.mono (HLG.out _ HW.out) ?_)
      rintro e wn ⟨rfl, h⟩
      have HWn := Aside0.mk (HW.out.trans (h.mono HW.out.size))
      clear HW h
      obtain ⟨wm, rfl⟩ : ∃ wz : World, wz = wn := ⟨_, rfl⟩
      have HW := Aside0.mk HWn.out
      clear HWn
      go_wp2_with (fail)
      refine hK.out _ _ ?_ (fun hHeld2 => ?_)
      · first | exact HS.out _ (HW.out.drew) | exact HS.out _ HW.out | exact HS.out _ (HW.out.trans (HWc.out.mono HW.out.size))
      clear hK K hHeld
      have hHeld := hHeld2
      clear hHeld2
      try simp only [Act.put, List.getElem_toArray, List.getElem_cons_zero, List.getElem_cons_succ, List.setIfInBounds_toArray, List.set_cons_zero, List.set_cons_succ]
      refine wpAnyH_ready (rs := [23]) (by kernel_rfl) (by simp) ?_
      refine (AllReadyH.cons (o := _) (by simp only [List.getElem?_toArray, List.getElem?_cons_zero, List.getElem?_cons_succ]; rfl) (fun K hK => ?_) AllReadyH.nil)
      go_simp
      go_at_call 27
      (with_reducible refine Calls.mono (HD5.out _) ?_)
      rintro e wn ⟨rfl, h⟩
      have HWn := Aside0.mk (HW.out.trans (h.mono HW.out.size))
      clear HW h
      obtain ⟨wm, rfl⟩ : ∃ wz : World, wz = wn := ⟨_, rfl⟩
      have HW := Aside0.mk HWn.out
      clear HWn
      go_wp2_with (fail)
      refine hK.out _ _ ?_ (fun hHeld2 => ?_)
      · first | exact HS.out _ (HW.out.drew) | exact HS.out _ HW.out | exact HS.out _ (HW.out.trans (HWc.out.mono HW.out.size))
      clear hK K hHeld
      have hHeld := hHeld2
      clear hHeld2
      try simp only [Act.put, List.getElem_toArray, List.getElem_cons_zero, List.getElem_cons_succ, List.setIfInBounds_toArray, List.set_cons_zero, List.set_cons_succ]
      refine wpAnyH_take (i := 24) (oi := _) (v := ?_) rfl (by kernel_rfl) (by kernel_rfl) (by kernel_rfl) (fun _ _ _ h => h) (Or.inl ⟨by rfl, ?_⟩) (by assumption) ?_
      case refine_2 => (intro w hSw; (try dsimp only [List.getElem_toArray, List.getElem_cons_zero, List.getElem_cons_succ] at hSw ⊢); go_simp; (try with_reducible rfl))
      try simp only [Act.put, List.getElem_toArray, List.getElem_cons_zero, List.getElem_cons_succ, List.setIfInBounds_toArray, List.set_cons_zero, List.set_cons_succ]
      refine wpAnyH_take (i := 25) (oi := _) (v := ?_) rfl (by kernel_rfl) (by kernel_rfl) (by kernel_rfl) (fun _ _ _ h => h) (Or.inl ⟨by rfl, ?_⟩) (by assumption) ?_
      case refine_2 => (intro w hSw; (try dsimp only [List.getElem_toArray, List.getElem_cons_zero, List.getElem_cons_succ] at hSw ⊢); go_simp; (try with_reducible rfl))
      try simp only [Act.put, List.getElem_toArray, List.getElem_cons_zero, List.getElem_cons_succ, List.setIfInBounds_toArray, List.set_cons_zero, List.set_cons_succ]
      refine wpAnyH_ready (rs := [26]) (by kernel_rfl) (by simp) ?_
      refine (AllReadyH.cons (o := _) (by simp only [List.getElem?_toArray, List.getElem?_cons_zero, List.getElem?_cons_succ]; rfl) (fun K hK => ?_) AllReadyH.nil)
      go_simp
      have HWc := Aside0.mk (Lib.bytesWorld_below wm 5 (str (B.head b cm)))
      refine hK.out _ _ ?_ (fun hHeld2 => ?_)
      · first | exact HS.out _ (HW.out.drew) | exact HS.out _ HW.out | exact HS.out _ (HW.out.trans (HWc.out.mono HW.out.size))
      clear hK K hHeld
      have hHeld := hHeld2
      clear hHeld2
      try simp only [Act.put, List.getElem_toArray, List.getElem_cons_zero, List.getElem_cons_succ, List.setIfInBounds_toArray, List.set_cons_zero, List.set_cons_succ]
      refine wpAnyH_take (i := 27) (oi := _) (v := ?_) rfl (by kernel_rfl) (by kernel_rfl) (by kernel_rfl) (fun _ _ _ h => h) (Or.inl ⟨by rfl, ?_⟩) (by assumption) ?_
      case refine_2 => (intro w hSw; (try dsimp only [List.getElem_toArray, List.getElem_cons_zero, List.getElem_cons_succ] at hSw ⊢); go_simp; (try with_reducible rfl))
      try simp only [Act.put, List.getElem_toArray, List.getElem_cons_zero, List.getElem_cons_succ, List.setIfInBounds_toArray, List.set_cons_zero, List.set_cons_succ]
      refine wpAnyH_done (by kernel_rfl) ?_ _
      obtain ⟨hd, hhd⟩ : ∃ hd, hd = B.head b cm := ⟨_, rfl⟩
      rw [← hhd]
      rw [← hhd] at HHL HX
      clear hhd
      obtain ⟨N, hN⟩ : ∃ N, N = (hd ++ cm).length := ⟨_, rfl⟩
      have hX3 := HX.out
      rw [← hN] at hX3
      have HN := Aside0.mk hN
      have HBT := Aside0.mk HW.out
      have HWw := Aside0.mk (HWB.out.trans (H2.out.mono HWB.out.size))
      clear hN
      by_cases hlong : 4096 < N
      · have HX2 := Aside0.mk (show X = ([], 2) by rw [hX3, if_pos hlong])
        have hl2 : (4096 : Int) < (N : Int) := by omega
        clear hX3
        go_wp2_with (first | ((with_reducible refine gate_builtin (b := .append) (xs := #[.tmp 38, .tmp 39]) rfl ?_); at_builtin; refine conv_append rfl (.tmp 38) (.tmp 39) rfl hd cm A5 _ c5 rfl rfl rfl (HC5.out.on HBT.out) HCP.out (by have := HCL.out; have := HHL.out; omega) N HN.out ?_; intro A9 c9 w9 h h'; have H9 := Aside0.mk h; have H9b := Aside0.mk h'; clear h h'))
        go_ret2
        refine ⟨⟨none, 0, by rw [HX2.out]; rfl, ?_⟩, HWw.out.trans ((HBT.out.trans (H9b.out.mono HBT.out.size)).mono HWw.out.size)⟩
        rw [HX2.out]
        exact Bt.none _
      · have HX2 := Aside0.mk (show X = (hd ++ cm, 0) by rw [hX3, if_neg hlong])
        have hl2 : (N : Int) ≤ 4096 := by omega
        clear hX3
        go_wp2_with (first | ((with_reducible refine gate_builtin (b := .append) (xs := #[.tmp 38, .tmp 39]) rfl ?_); at_builtin; refine conv_append rfl (.tmp 38) (.tmp 39) rfl hd cm A5 _ c5 rfl rfl rfl (HC5.out.on HBT.out) HCP.out (by have := HCL.out; have := HHL.out; omega) N HN.out ?_; intro A9 c9 w9 h h'; have H9 := Aside0.mk h; have H9b := Aside0.mk h'; clear h h'))
        go_ret2
        refine ⟨⟨A9, c9, by rw [HX2.out, ← HN.out]; rfl, ?_⟩, HWw.out.trans ((HBT.out.trans (H9b.out.mono HBT.out.size)).mono HWw.out.size)⟩
        rw [HX2.out]
        exact H9.out.bt
end Go.Proofs.YtpfmnkpmidjfjaaGreatDoor
/- What keep's Twin, TwinPaths and the reference's Plain answer. -/
namespace Go.Proofs.YtpfmnkpmidjfjaaGreatDoor
open Go.RowKit Go.Lib
open Go.Proofs.YtpfmnkpmidjfjaaGreatDoorW.PrintWords
set_option linter.unusedVariables false
set_option linter.unusedSimpArgs false
end Go.Proofs.YtpfmnkpmidjfjaaGreatDoor
/- BundleForms' region of 174 operations, fact by fact. -/
namespace Go.Proofs.YtpfmnkpmidjfjaaGreatDoor
open Go.RowKit Go.Lib
open Go.Proofs.YtpfmnkpmidjfjaaGreatDoorW.PrintWords
set_option linter.unusedVariables false
set_option linter.unusedSimpArgs false
open Facts
noncomputable abbrev ops13 : Array Oper := Go.Proofs.YtpfmnkpmidjfjaaGreatDoorW.PrintLast.opsOf Tryz.f7 13
def ds13 : List (Nat × Option Tmp) := [(0, some 45), (1, some 46), (2, some 47), (3, some 48), (4, some 49), (5, some 50), (6, some 51), (7, some 52), (8, some 53), (9, some 54), (10, some 55), (11, some 56), (12, some 57), (13, some 58), (14, some 59), (15, some 60), (16, some 61), (17, some 62), (18, some 63), (19, some 64), (20, some 65), (21, some 66), (22, some 67), (23, some 68), (24, some 69), (25, some 70), (26, some 71), (27, some 72), (28, some 73), (29, some 74), (30, some 75), (31, some 76), (32, some 77), (33, some 78), (34, some 79), (35, some 80), (36, some 81), (37, some 82), (38, some 83), (39, some 84), (40, some 85), (41, some 86), (42, some 87), (43, some 88), (44, some 89), (45, some 90), (46, some 91), (47, some 92), (48, some 93), (49, some 94), (50, some 95), (51, some 96), (52, some 97), (53, some 98), (54, some 99), (55, some 100), (56, some 101), (57, some 102), (58, some 103), (59, some 104), (60, some 105), (61, some 106), (62, some 107), (63, some 108), (64, some 109), (65, some 110), (66, some 111), (67, some 112), (68, some 113), (69, some 114), (70, some 115), (71, some 116), (72, some 117), (73, some 118), (74, some 119), (75, some 120), (76, some 121), (77, some 122), (78, some 123), (79, some 124), (80, some 125), (81, some 126), (82, some 127), (83, some 128), (84, some 129), (85, some 130), (86, some 131), (87, some 132), (88, some 133), (89, some 134), (90, some 135), (91, some 136), (92, some 137), (93, some 138), (94, some 139), (95, some 140), (96, some 141), (97, some 142), (98, some 143), (99, some 144), (100, some 145), (101, some 146), (102, some 147), (103, some 148), (104, some 149), (105, some 150), (106, some 151), (107, some 152), (108, some 153), (109, some 154), (110, some 155), (111, some 156), (112, some 157), (113, some 158), (114, some 159), (115, some 160), (116, some 161), (117, some 162), (118, some 163), (119, some 164), (120, some 165), (121, some 166), (122, some 167), (123, some 168), (124, some 169), (125, some 170), (126, some 171), (127, some 172), (128, some 173), (129, some 174), (130, some 175), (131, some 176), (132, some 177), (133, some 178), (134, some 179), (135, some 180), (136, some 181), (137, some 182), (138, some 183), (139, some 184), (140, some 185), (141, some 186), (142, some 187), (143, some 188), (144, some 189), (145, some 190), (146, some 191), (147, some 192), (148, some 193), (149, some 194), (150, some 195), (151, some 196), (152, some 197), (153, some 198), (154, some 199), (155, some 200), (156, some 201), (157, some 202), (158, some 203), (159, some 204), (160, some 205), (161, some 206), (162, some 207), (163, some 208), (164, some 209), (165, some 210), (166, some 211), (167, some 212), (168, some 213), (169, some 214), (170, some 215), (171, some 216), (172, some 217), (173, some 12)]
def VL13 (gb : Nat) (o n nm : Int) (AC : Option Addr) (lC cC : Nat) (Z : Nat → ByteArray) : List Value := [(.func (.func 27) #[] #[]), (.pointer (some ⟨gb, 0, none⟩)), (.int .i64 o), (.string (Z 1)), (.string (Z 100)), (.string (Z 101)), (.func (.func 27) #[] #[]), (.pointer (some ⟨gb, 1, none⟩)), (.int .i64 n), (.string (Z 2)), (.string (Z 102)), (.string (Z 103)), (.func (.func 27) #[] #[]), (.int .i64 nm), (.string (Z 3)), (.string (Z 104)), (.string (Z 105)), (.func (.func 27) #[] #[]), (.slice AC lC cC), (.int .i64 (lC : Int)), (.string (Z 4)), (.string (Z 106)), (.string (Z 107)), (.string (Z 5)), (.string (Z 108)), (.func (.func 27) #[] #[]), (.pointer (some ⟨gb, 0, none⟩)), (.int .i64 o), (.string (Z 1)), (.string (Z 109)), (.string (Z 110)), (.func (.func 27) #[] #[]), (.pointer (some ⟨gb, 1, none⟩)), (.int .i64 n), (.string (Z 2)), (.string (Z 111)), (.string (Z 112)), (.func (.func 27) #[] #[]), (.int .i64 nm), (.string (Z 3)), (.string (Z 113)), (.string (Z 114)), (.func (.func 27) #[] #[]), (.slice AC lC cC), (.int .i64 (lC : Int)), (.string (Z 4)), (.string (Z 115)), (.string (Z 116)), (.string (Z 5)), (.string (Z 117)), (.func (.func 27) #[] #[]), (.pointer (some ⟨gb, 0, none⟩)), (.int .i64 o), (.int .i64 (o + 2)), (.string (Z 11)), (.string (Z 118)), (.string (Z 119)), (.func (.func 27) #[] #[]), (.pointer (some ⟨gb, 1, none⟩)), (.int .i64 n), (.string (Z 2)), (.string (Z 120)), (.string (Z 121)), (.func (.func 27) #[] #[]), (.int .i64 nm), (.string (Z 3)), (.string (Z 122)), (.string (Z 123)), (.func (.func 27) #[] #[]), (.slice AC lC cC), (.int .i64 (lC : Int)), (.string (Z 4)), (.string (Z 124)), (.string (Z 125)), (.string (Z 5)), (.string (Z 126)), (.func (.func 27) #[] #[]), (.pointer (some ⟨gb, 0, none⟩)), (.int .i64 o), (.string (Z 1)), (.string (Z 100)), (.string (Z 127)), (.func (.func 27) #[] #[]), (.pointer (some ⟨gb, 1, none⟩)), (.int .i64 n), (.string (Z 2)), (.string (Z 128)), (.string (Z 129)), (.func (.func 27) #[] #[]), (.int .i64 nm), (.int .i64 (nm + 1)), (.string (Z 13)), (.string (Z 130)), (.string (Z 131)), (.func (.func 27) #[] #[]), (.slice AC lC cC), (.int .i64 (lC : Int)), (.string (Z 4)), (.string (Z 132)), (.string (Z 133)), (.string (Z 5)), (.string (Z 134)), (.func (.func 27) #[] #[]), (.pointer (some ⟨gb, 0, none⟩)), (.int .i64 o), (.string (Z 1)), (.string (Z 100)), (.string (Z 127)), (.func (.func 27) #[] #[]), (.pointer (some ⟨gb, 1, none⟩)), (.int .i64 n), (.string (Z 2)), (.string (Z 128)), (.string (Z 129)), (.func (.func 27) #[] #[]), (.int .i64 nm), (.string (Z 3)), (.string (Z 135)), (.string (Z 136)), (.func (.func 27) #[] #[]), (.slice AC lC cC), (.int .i64 (lC : Int)), (.int .i64 ((lC : Int) + 1)), (.string (Z 14)), (.string (Z 137)), (.string (Z 138)), (.string (Z 5)), (.string (Z 139)), (.func (.func 27) #[] #[]), (.pointer (some ⟨gb, 0, none⟩)), (.int .i64 o), (.string (Z 1)), (.string (Z 100)), (.string (Z 127)), (.func (.func 27) #[] #[]), (.pointer (some ⟨gb, 1, none⟩)), (.int .i64 n), (.string (Z 2)), (.string (Z 128)), (.string (Z 129)), (.func (.func 27) #[] #[]), (.int .i64 nm), (.string (Z 3)), (.string (Z 135)), (.string (Z 136)), (.func (.func 27) #[] #[]), (.slice AC lC cC), (.int .i64 (lC : Int)), (.string (Z 4)), (.string (Z 140)), (.string (Z 141)), (.string (Z 5)), (.string (Z 142)), (.func (.func 27) #[] #[]), (.pointer (some ⟨gb, 0, none⟩)), (.int .i64 o), (.string (Z 1)), (.string (Z 100)), (.string (Z 143)), (.func (.func 27) #[] #[]), (.int .i64 nm), (.string (Z 3)), (.string (Z 144)), (.string (Z 145)), (.func (.func 27) #[] #[]), (.slice AC lC cC), (.int .i64 (lC : Int)), (.string (Z 4)), (.string (Z 146)), (.string (Z 147)), (.string (Z 5)), (.string (Z 148))]
def Phi13 (gb : Nat) (o n nm : Int) (AC : Option Addr) (lC cC : Nat) (Z : Nat → ByteArray) (Row : Value → World → Prop) (i : Nat) (v : Value) (X : World) : Prop := match Nat.ble 172 i with
  | true => Row v X
  | false => v = (VL13 gb o n nm AC lC cC Z).getD i undef
theorem acE_size (ds : List (Nat × Option Tmp)) : ∀ (a : Act) (V : Nat → Value), (acE a ds V).tmps.size = a.tmps.size := by
  induction ds with
  | nil => intro _ _; rfl
  | cons x ds ih =>
    intro a V
    simp only [acE]
    rw [ih]
    unfold Act.put
    split <;> simp
theorem acE_self (ds : List (Nat × Option Tmp)) : ∀ (a : Act) (V : Nat → Value), (∀ x ∈ ds, ∀ t, x.2 = some t → V x.1 = a.eval (.tmp t)) → acE a ds V = a := by
  induction ds with
  | nil => intro _ _ _; rfl
  | cons x ds ih =>
    intro a V h
    have hp : a.put x.2 (V x.1) = a := by
      obtain ⟨i, d⟩ := x
      cases d with
      | none => rfl
      | some t =>
        have ht := h (i, some t) (List.mem_cons_self ..) t rfl
        simp only at ht ⊢
        rw [ht]
        unfold Act.put Act.eval
        cases a with
        | mk tmps =>
          simp only
          congr 1
          apply Array.ext (by simp)
          intro j h1 h2
          by_cases e : t = j
          · subst e
            simp [Array.getD, h2]
          · exact (Array.getElem_setIfInBounds ..).trans (if_neg e)
    simp only [acE, hp]
    exact ih a V fun y hy => h y (List.mem_cons_of_mem _ hy)
theorem acE_out (ds : List (Nat × Option Tmp)) (t : Tmp) : ∀ (a : Act) (V : Nat → Value), (ds.all fun y => y.2 != some t) = true → (acE a ds V).eval (.tmp t) = a.eval (.tmp t) := by
  induction ds with
  | nil => intro _ _ _; rfl
  | cons x ds ih =>
    intro a V h
    simp only [List.all_cons, Bool.and_eq_true] at h
    simp only [acE]
    rw [ih _ _ h.2]
    have hne : x.2 ≠ some t := by simpa using h.1
    unfold Act.put Act.eval
    cases hx : x.2 with
    | none => rfl
    | some d =>
      have hd : d ≠ t := fun e => hne (by rw [hx, e])
      simp [hd]
theorem acE_in (ds : List (Nat × Option Tmp)) (t : Tmp) (j : Nat) : ∀ (a : Act) (V : Nat → Value), aloneB ds = true → (j, some t) ∈ ds → t < a.tmps.size → (acE a ds V).eval (.tmp t) = V j := by
  induction ds with
  | nil => intro _ _ _ h _; cases h
  | cons x ds ih =>
    intro a V hal hm ht
    simp only [aloneB, Bool.and_eq_true] at hal
    simp only [acE]
    rcases List.mem_cons.1 hm with h | h
    · subst h
      rw [acE_out ds t _ _ (by
        rw [List.all_eq_true] at hal ⊢
        intro y hy
        have := hal.1 y hy
        simp only [Bool.and_eq_true, Bool.or_eq_true] at this
        rcases this.2 with h | h
        · simp at h
        · rw [bne_iff_ne] at h ⊢
          exact fun e => h e.symm)]
      unfold Act.put Act.eval
      simp [ht]
    · exact ih _ V hal.2 h (by unfold Act.put; split <;> simpa using ht)
section
variable {Q : Exit → Act → World → Prop} {a : Act} {V : Nat → Value}
theorem ev_in {t : Tmp} {j : Nat} {v : Value} (hsz : 217 < a.tmps.size) (hm : ds13.contains (j, some t) = true) (ht : Nat.ble t 217 = true) (hv : V j = v) : (acE a ds13 V).eval (.tmp t) = v := by
  rw [acE_in ds13 t j a V (by kernel_rfl) (List.contains_iff_mem.1 hm) (Nat.lt_of_le_of_lt (Nat.le_of_ble_eq_true ht) hsz), hv]
theorem ev_out {t : Tmp} {v : Value} (hm : (ds13.all fun y => y.2 != some t) = true) (hv : a.eval (.tmp t) = v) : (acE a ds13 V).eval (.tmp t) = v := by rw [acE_out ds13 t a V hm, hv]
theorem pre_at {i j : Nat} {o : Oper} {w : World} {gb : Nat} {oo nn nm : Int} {AC : Option Addr} {lC cC : Nat} {Z : Nat → ByteArray} {Row : Value → World → Prop} (ho : ops13[i]? = some o) (hB : (ops13[i]?.map fun o => o.after.any fun e => e.on == j && Region.binds .any e) = some true) (hj : Nat.ble 172 j = false)
    (hpre : ∀ e ∈ o.after, Region.binds .any e = true → (Array.replicate 174 false).getD e.on false = false → Phi13 gb oo nn nm AC lC cC Z Row e.on (V e.on) w) : V j = (VL13 gb oo nn nm AC lC cC Z).getD j undef := by
  rw [ho] at hB
  simp only [Option.map_some, Option.some.injEq, Array.any_eq_true] at hB
  obtain ⟨k, hk, hB⟩ := hB
  simp only [Bool.and_eq_true, beq_iff_eq] at hB
  have := hpre _ (Array.getElem_mem hk) hB.2 (by
    rw [hB.1]
    by_cases h : j < 174
    · simp [h]
    · simp [h])
  rw [hB.1] at this
  unfold Phi13 at this
  rw [hj] at this
  exact this
theorem do_val {ρ : Act} {X : World} {K : Act → World → Prop} {i : Nat} {o : Oper} {d : Option Tmp} (op : Op) (v : Value) (ho : ops13[i]? = some o) (hop : (ops13[i]?.map (·.op)) = some op) (hg : (ops13[i]?.map fun o => o.guard.isNone) = some true) (hd : (ops13[i]?.map (·.dst)) = some d)
    (hrun : ∀ o' : Oper, o'.op = op → (execOp ρ.eval o').run Tryz.prog X = .ok (.value v) X) (h : K (ρ.put d v) X) : OpDo Tryz.prog ops13 Q o d ρ X K := by
  rw [ho] at hop hg hd
  simp only [Option.map_some, Option.some.injEq] at hop hg hd
  refine OpDo.value (d := d) ?_ hd (hrun o hop) h
  unfold Region.wanted
  cases hgd : o.guard with
  | none => rfl
  | some p => rw [hgd] at hg; cases hg
theorem do_call {ρ : Act} {X : World} {K : Act → World → Prop} {i : Nat} {o : Oper} {d : Option Tmp} (op : Op) (f : FuncId) (args : Array Value) (ho : ops13[i]? = some o) (hop : (ops13[i]?.map (·.op)) = some op) (hg : (ops13[i]?.map fun o => o.guard.isNone) = some true) (hd : (ops13[i]?.map (·.dst)) = some d)
    (hrun : ∀ o' : Oper, o'.op = op → (execOp ρ.eval o').run Tryz.prog X = .ok (.enter f args) X) (h : Calls Tryz.prog f args X fun e w' => ∃ v, e = .returned v ∧ K (ρ.put d v) w') : OpDo Tryz.prog ops13 Q o d ρ X K := by
  rw [ho] at hop hg hd
  simp only [Option.map_some, Option.some.injEq] at hop hg hd
  refine OpDo.call (d := d) f args ?_ hd (hrun o hop) h
  unfold Region.wanted
  cases hgd : o.guard with
  | none => rfl
  | some p => rw [hgd] at hg; cases hg
theorem do_new {ρ : Act} {X X' : World} {K : Act → World → Prop} {i : Nat} {o : Oper} {d : Option Tmp} (op : Op) (v : Value) (ho : ops13[i]? = some o) (hop : (ops13[i]?.map (·.op)) = some op) (hg : (ops13[i]?.map fun o => o.guard.isNone) = some true) (hd : (ops13[i]?.map (·.dst)) = some d)
    (hrun : ∀ o' : Oper, o'.op = op → (execOp ρ.eval o').run Tryz.prog X = .ok (.value v) X') (h : K (ρ.put d v) X') : OpDo Tryz.prog ops13 Q o d ρ X K := by
  rw [ho] at hop hg hd
  simp only [Option.map_some, Option.some.injEq] at hop hg hd
  refine OpDo.value (d := d) ?_ hd (hrun o hop) h
  unfold Region.wanted
  cases hgd : o.guard with
  | none => rfl
  | some p => rw [hgd] at hg; cases hg
variable {ρ : Operand → Value} {X : World} {o' : Oper}
theorem rn_move {x : Operand} {v : Value} (h : o'.op = .move x) (hv : ρ x = v) : (execOp ρ o').run Tryz.prog X = .ok (.value v) X := by
  unfold execOp
  rw [h, ← hv]
  rfl
theorem rn_assign {x : Operand} {v : Value} (h : o'.op = .assign x) (hv : ρ x = v) : (execOp ρ o').run Tryz.prog X = .ok (.value v) X := by
  unfold execOp
  rw [h, ← hv]
  rfl
theorem rn_field0 {x : Operand} {g : Nat} (h : o'.op = .fieldAddr 24 x 0) (hv : ρ x = .pointer (some ⟨g, 0, none⟩)) : (execOp ρ o').run Tryz.prog X = .ok (.value (.pointer (some ⟨g, 0, none⟩))) X := by
  unfold execOp
  simp only [h, hv]
  go_simp
theorem rn_field1 {x : Operand} {g : Nat} (h : o'.op = .fieldAddr 24 x 1) (hv : ρ x = .pointer (some ⟨g, 0, none⟩)) : (execOp ρ o').run Tryz.prog X = .ok (.value (.pointer (some ⟨g, 1, none⟩))) X := by
  unfold execOp
  simp only [h, hv]
  go_simp
theorem rn_load {x : Operand} {g k : Nat} {n : Int} (h : o'.op = .load 3 x) (hv : ρ x = .pointer (some ⟨g, k, none⟩)) (hc : X.cell? ⟨g, k, none⟩ = some (.int .i64 n)) : (execOp ρ o').run Tryz.prog X = .ok (.value (.int .i64 n)) X := by
  unfold execOp
  simp only [h, hv]
  go_simp
theorem rn_len {x : Operand} {A : Option Addr} {n c : Nat} (h : o'.op = .call { callee := .builtin .len, args := #[x], argTypes := #[25] }) (hv : ρ x = .slice A n c) : (execOp ρ o').run Tryz.prog X = .ok (.value (.int .i64 (n : Int))) X := by
  unfold execOp
  simp only [h]
  go_simp
theorem rn_addi {x y : Operand} {t : TypeId} {m n : Int} (h : o'.op = .binOp .add 3 x y t) (hx : ρ x = .int .i64 m) (hy : ρ y = .int .i64 n) (hw : IntKind.i64.wrap (m + n) = m + n) : (execOp ρ o').run Tryz.prog X = .ok (.value (.int .i64 (m + n))) X := by
  unfold execOp
  simp only [h, hx, hy]
  go_simp
theorem rn_cat {x y : Operand} {t : TypeId} {p q r : ByteArray} (h : o'.op = .binOp .add 9 x y t) (hx : ρ x = .string p) (hy : ρ y = .string q) (hk : (Op.stringOp .add p q).run Tryz.prog X = .ok (.string r) X) : (execOp ρ o').run Tryz.prog X = .ok (.value (.string r)) X := by
  unfold execOp
  simp only [h, hx, hy]
  go_simp
theorem rn_enter {x y : Operand} {f : FuncId} {v : Value} (h : o'.op = .call { callee := .value x, args := #[y], argTypes := #[3] }) (hf : f = 27) (hx : ρ x = .func (.func f) #[] #[]) (hy : ρ y = v) : (execOp ρ o').run Tryz.prog X = .ok (.enter f #[v]) X := by
  subst hf
  unfold execOp
  simp only [h]
  go_simp
theorem rn_heads {x0 x1 x2 x3 x4 x5 x6 : Operand} {s0 s1 s2 s3 s4 s5 s6 : ByteArray} (h : o'.op = .buildSlice 57 7 #[(0, x0), (1, x1), (2, x2), (3, x3), (4, x4), (5, x5), (6, x6)])
    (h0 : ρ x0 = .string s0) (h1 : ρ x1 = .string s1) (h2 : ρ x2 = .string s2) (h3 : ρ x3 = .string s3) (h4 : ρ x4 = .string s4) (h5 : ρ x5 = .string s5) (h6 : ρ x6 = .string s6) :
    (execOp ρ o').run Tryz.prog X = .ok (.value (.slice (some ⟨X.heap.size, 0, none⟩) 7 7)) (X.alloc (.cells #[.string s0, .string s1, .string s2, .string s3, .string s4, .string s5, .string s6] 9)) := by
  unfold execOp
  simp only [h]
  go_simp
end
set_option maxRecDepth 100000 in
set_option maxHeartbeats 16000000 in
theorem forms_region (Q : Exit → Act → World → Prop) (a : Act) (W0 : World) (gb : Nat) (o n nm : Int) (AC : Option Addr) (lC cC : Nat) (Z : Nat → ByteArray) (hsz : 217 < a.tmps.size)
    (ha2 : a.eval (.tmp 2) = .pointer (some ⟨gb, 0, none⟩)) (ha8 : a.eval (.tmp 8) = .slice AC lC cC) (ha9 : a.eval (.tmp 9) = .func (.func 27) #[] #[]) (ha10 : a.eval (.tmp 10) = .int .i64 nm) (ha11 : a.eval (.tmp 11) = .string (Z 5))
    (hcell : ∀ X, Below W0.heap.size W0 X → X.cell? ⟨gb, 0, none⟩ = some (.int .i64 o) ∧ X.cell? ⟨gb, 1, none⟩ = some (.int .i64 n))
    (hw1 : IntKind.i64.wrap (o + 2) = o + 2) (hw3 : IntKind.i64.wrap (nm + 1) = nm + 1) (hw4 : IntKind.i64.wrap ((lC : Int) + 1) = (lC : Int) + 1)
    (HD1 : ∀ w, Calls Tryz.prog 27 #[.int .i64 o] w fun e w' => e = .returned (.string (Z 1)) ∧ Below w.heap.size w w') (HD2 : ∀ w, Calls Tryz.prog 27 #[.int .i64 n] w fun e w' => e = .returned (.string (Z 2)) ∧ Below w.heap.size w w') (HD3 : ∀ w, Calls Tryz.prog 27 #[.int .i64 nm] w fun e w' => e = .returned (.string (Z 3)) ∧ Below w.heap.size w w') (HD4 : ∀ w, Calls Tryz.prog 27 #[.int .i64 (lC : Int)] w fun e w' => e = .returned (.string (Z 4)) ∧ Below w.heap.size w w') (HG1 : ∀ w, Calls Tryz.prog 27 #[.int .i64 (o + 2)] w fun e w' => e = .returned (.string (Z 11)) ∧ Below w.heap.size w w') (HG3 : ∀ w, Calls Tryz.prog 27 #[.int .i64 (nm + 1)] w fun e w' => e = .returned (.string (Z 13)) ∧ Below w.heap.size w w') (HG4 : ∀ w, Calls Tryz.prog 27 #[.int .i64 ((lC : Int) + 1)] w fun e w' => e = .returned (.string (Z 14)) ∧ Below w.heap.size w w')
    (hk100 : ∀ w, (Op.stringOp .add ({ data := #[66, 85, 78, 68, 76, 69, 32] } : ByteArray) (Z 1)).run Tryz.prog w = .ok (.string (Z 100)) w) (hk101 : ∀ w, (Op.stringOp .add (Z 100) ({ data := #[32, 48] } : ByteArray)).run Tryz.prog w = .ok (.string (Z 101)) w) (hk102 : ∀ w, (Op.stringOp .add (Z 101) (Z 2)).run Tryz.prog w = .ok (.string (Z 102)) w) (hk103 : ∀ w, (Op.stringOp .add (Z 102) ({ data := #[32] } : ByteArray)).run Tryz.prog w = .ok (.string (Z 103)) w) (hk104 : ∀ w, (Op.stringOp .add (Z 103) (Z 3)).run Tryz.prog w = .ok (.string (Z 104)) w) (hk105 : ∀ w, (Op.stringOp .add (Z 104) ({ data := #[32] } : ByteArray)).run Tryz.prog w = .ok (.string (Z 105)) w) (hk106 : ∀ w, (Op.stringOp .add (Z 105) (Z 4)).run Tryz.prog w = .ok (.string (Z 106)) w) (hk107 : ∀ w, (Op.stringOp .add (Z 106) ({ data := #[32] } : ByteArray)).run Tryz.prog w = .ok (.string (Z 107)) w) (hk108 : ∀ w, (Op.stringOp .add (Z 107) (Z 5)).run Tryz.prog w = .ok (.string (Z 108)) w) (hk109 : ∀ w, (Op.stringOp .add ({ data := #[98, 117, 110, 100, 108, 101, 32] } : ByteArray) (Z 1)).run Tryz.prog w = .ok (.string (Z 109)) w) (hk110 : ∀ w, (Op.stringOp .add (Z 109) ({ data := #[32] } : ByteArray)).run Tryz.prog w = .ok (.string (Z 110)) w) (hk111 : ∀ w, (Op.stringOp .add (Z 110) (Z 2)).run Tryz.prog w = .ok (.string (Z 111)) w) (hk112 : ∀ w, (Op.stringOp .add (Z 111) ({ data := #[32] } : ByteArray)).run Tryz.prog w = .ok (.string (Z 112)) w) (hk113 : ∀ w, (Op.stringOp .add (Z 112) (Z 3)).run Tryz.prog w = .ok (.string (Z 113)) w) (hk114 : ∀ w, (Op.stringOp .add (Z 113) ({ data := #[32] } : ByteArray)).run Tryz.prog w = .ok (.string (Z 114)) w) (hk115 : ∀ w, (Op.stringOp .add (Z 114) (Z 4)).run Tryz.prog w = .ok (.string (Z 115)) w) (hk116 : ∀ w, (Op.stringOp .add (Z 115) ({ data := #[32] } : ByteArray)).run Tryz.prog w = .ok (.string (Z 116)) w) (hk117 : ∀ w, (Op.stringOp .add (Z 116) (Z 5)).run Tryz.prog w = .ok (.string (Z 117)) w) (hk118 : ∀ w, (Op.stringOp .add ({ data := #[66, 85, 78, 68, 76, 69, 32] } : ByteArray) (Z 11)).run Tryz.prog w = .ok (.string (Z 118)) w) (hk119 : ∀ w, (Op.stringOp .add (Z 118) ({ data := #[32] } : ByteArray)).run Tryz.prog w = .ok (.string (Z 119)) w) (hk120 : ∀ w, (Op.stringOp .add (Z 119) (Z 2)).run Tryz.prog w = .ok (.string (Z 120)) w) (hk121 : ∀ w, (Op.stringOp .add (Z 120) ({ data := #[32] } : ByteArray)).run Tryz.prog w = .ok (.string (Z 121)) w) (hk122 : ∀ w, (Op.stringOp .add (Z 121) (Z 3)).run Tryz.prog w = .ok (.string (Z 122)) w) (hk123 : ∀ w, (Op.stringOp .add (Z 122) ({ data := #[32] } : ByteArray)).run Tryz.prog w = .ok (.string (Z 123)) w) (hk124 : ∀ w, (Op.stringOp .add (Z 123) (Z 4)).run Tryz.prog w = .ok (.string (Z 124)) w) (hk125 : ∀ w, (Op.stringOp .add (Z 124) ({ data := #[32] } : ByteArray)).run Tryz.prog w = .ok (.string (Z 125)) w) (hk126 : ∀ w, (Op.stringOp .add (Z 125) (Z 5)).run Tryz.prog w = .ok (.string (Z 126)) w) (hk127 : ∀ w, (Op.stringOp .add (Z 100) ({ data := #[32] } : ByteArray)).run Tryz.prog w = .ok (.string (Z 127)) w) (hk128 : ∀ w, (Op.stringOp .add (Z 127) (Z 2)).run Tryz.prog w = .ok (.string (Z 128)) w) (hk129 : ∀ w, (Op.stringOp .add (Z 128) ({ data := #[32] } : ByteArray)).run Tryz.prog w = .ok (.string (Z 129)) w) (hk130 : ∀ w, (Op.stringOp .add (Z 129) (Z 13)).run Tryz.prog w = .ok (.string (Z 130)) w) (hk131 : ∀ w, (Op.stringOp .add (Z 130) ({ data := #[32] } : ByteArray)).run Tryz.prog w = .ok (.string (Z 131)) w) (hk132 : ∀ w, (Op.stringOp .add (Z 131) (Z 4)).run Tryz.prog w = .ok (.string (Z 132)) w) (hk133 : ∀ w, (Op.stringOp .add (Z 132) ({ data := #[32] } : ByteArray)).run Tryz.prog w = .ok (.string (Z 133)) w) (hk134 : ∀ w, (Op.stringOp .add (Z 133) (Z 5)).run Tryz.prog w = .ok (.string (Z 134)) w) (hk135 : ∀ w, (Op.stringOp .add (Z 129) (Z 3)).run Tryz.prog w = .ok (.string (Z 135)) w) (hk136 : ∀ w, (Op.stringOp .add (Z 135) ({ data := #[32] } : ByteArray)).run Tryz.prog w = .ok (.string (Z 136)) w) (hk137 : ∀ w, (Op.stringOp .add (Z 136) (Z 14)).run Tryz.prog w = .ok (.string (Z 137)) w) (hk138 : ∀ w, (Op.stringOp .add (Z 137) ({ data := #[32] } : ByteArray)).run Tryz.prog w = .ok (.string (Z 138)) w) (hk139 : ∀ w, (Op.stringOp .add (Z 138) (Z 5)).run Tryz.prog w = .ok (.string (Z 139)) w) (hk140 : ∀ w, (Op.stringOp .add (Z 136) (Z 4)).run Tryz.prog w = .ok (.string (Z 140)) w) (hk141 : ∀ w, (Op.stringOp .add (Z 140) ({ data := #[32, 32] } : ByteArray)).run Tryz.prog w = .ok (.string (Z 141)) w) (hk142 : ∀ w, (Op.stringOp .add (Z 141) (Z 5)).run Tryz.prog w = .ok (.string (Z 142)) w) (hk143 : ∀ w, (Op.stringOp .add (Z 100) ({ data := #[32, 54, 53, 53, 51, 54, 32] } : ByteArray)).run Tryz.prog w = .ok (.string (Z 143)) w) (hk144 : ∀ w, (Op.stringOp .add (Z 143) (Z 3)).run Tryz.prog w = .ok (.string (Z 144)) w) (hk145 : ∀ w, (Op.stringOp .add (Z 144) ({ data := #[32] } : ByteArray)).run Tryz.prog w = .ok (.string (Z 145)) w) (hk146 : ∀ w, (Op.stringOp .add (Z 145) (Z 4)).run Tryz.prog w = .ok (.string (Z 146)) w) (hk147 : ∀ w, (Op.stringOp .add (Z 146) ({ data := #[32] } : ByteArray)).run Tryz.prog w = .ok (.string (Z 147)) w) (hk148 : ∀ w, (Op.stringOp .add (Z 147) (Z 5)).run Tryz.prog w = .ok (.string (Z 148)) w)
    (hQ : ∀ (V : Nat → Value) X g, Below W0.heap.size W0 X → V 173 = .slice (some ⟨g, 0, none⟩) 7 7 → X.heap[g]? = some (.cells #[.string (Z 108), .string (Z 117), .string (Z 126), .string (Z 134), .string (Z 139), .string (Z 142), .string (Z 148)] 9 (0, 0)) → Q .normal (acE a ds13 V) X) :
    (Code.region 13 ops13 true).wp Tryz.prog Q a W0 := by
  refine region_any (n := 0 + 174) (Array.replicate 174 false) (by kernel_rfl) (by kernel_rfl) rfl (fun W1 hW1 hB1 => ?_)
  have hB : Below W0.heap.size W0 W1 := hB1 _
  clear hW1 hB1
  obtain ⟨Row, hRow⟩ : ∃ Row : Value → World → Prop, Row = fun v X => ∃ g, v = .slice (some ⟨g, 0, none⟩) 7 7 ∧ X.heap[g]? = some (.cells #[.string (Z 108), .string (Z 117), .string (Z 126), .string (Z 134), .string (Z 139), .string (Z 142), .string (Z 148)] 9 (0, 0)) := ⟨_, rfl⟩
  refine wpAny_eval ds13 (Array.replicate 174 false) (Array.replicate 174 true) (by kernel_rfl) 0 a W1 (fun w w' => Below w.heap.size w w') (Phi13 gb o n nm AC lC cC Z Row) (fun w => Below.refl _ _) (fun w1 w2 w3 h1 h2 => h1.trans (h2.mono h1.size)) ?stab ?hop ?H (fun j => match ds13.find? (fun x => x.1 == j) with | some (_, some t) => a.eval (.tmp t) | _ => undef) ?V0
  case stab =>
    intro i v w1 w2 h1 h2
    unfold Phi13 at h1 ⊢
    cases hb : Nat.ble 172 i with
    | true =>
      rw [hb] at h1
      simp only at h1 ⊢
      rw [hRow] at h1 ⊢
      obtain ⟨g, h3, h4⟩ := h1
      exact ⟨g, h3, row_on h2 h4⟩
    | false =>
      rw [hb] at h1
      exact h1
  case V0 =>
    refine acE_self ds13 a _ fun x hx t ht => ?_
    have h : (ds13.all fun x => ds13.find? (fun y => y.1 == x.1) == some x) = true := by kernel_rfl
    rw [List.all_eq_true] at h
    have h := h x hx
    rw [beq_iff_eq] at h
    obtain ⟨i, d⟩ := x
    subst ht
    simp only at h ⊢
    rw [h]
  case H =>
    intro V X hX hall
    refine Facts.wpAny_done (by kernel_rfl) ?_
    have h := hall (173, some 12) (by decide +kernel)
    unfold Phi13 at h
    rw [show Nat.ble 172 (173, some 12).1 = true from rfl] at h
    simp only at h
    rw [hRow] at h
    obtain ⟨g, h1, h2⟩ := h
    exact hQ V X g (hB.trans (hX.mono hB.size)) h1 h2
  case hop =>
    intro z hz oo ho V X hR0 hpre K hK
    have hR : Below W0.heap.size W0 X := hB.trans (hR0.mono hB.size)
    clear hR0 hB hQ
    simp only [ds13, List.mem_cons, List.not_mem_nil, or_false] at hz
    rcases hz with rfl | rfl | rfl | rfl | rfl | rfl | rfl | rfl | rfl | rfl | rfl | rfl | rfl | rfl | rfl | rfl | rfl | rfl | rfl | rfl | rfl | rfl | rfl | rfl | rfl | rfl | rfl | rfl | rfl | rfl | rfl | rfl | rfl | rfl | rfl | rfl | rfl | rfl | rfl | rfl | rfl | rfl | rfl | rfl | rfl | rfl | rfl | rfl | rfl | rfl | rfl | rfl | rfl | rfl | rfl | rfl | rfl | rfl | rfl | rfl | rfl | rfl | rfl | rfl | rfl | rfl | rfl | rfl | rfl | rfl | rfl | rfl | rfl | rfl | rfl | rfl | rfl | rfl | rfl | rfl | rfl | rfl | rfl | rfl | rfl | rfl | rfl | rfl | rfl | rfl | rfl | rfl | rfl | rfl | rfl | rfl | rfl | rfl | rfl | rfl | rfl | rfl | rfl | rfl | rfl | rfl | rfl | rfl | rfl | rfl | rfl | rfl | rfl | rfl | rfl | rfl | rfl | rfl | rfl | rfl | rfl | rfl | rfl | rfl | rfl | rfl | rfl | rfl | rfl | rfl | rfl | rfl | rfl | rfl | rfl | rfl | rfl | rfl | rfl | rfl | rfl | rfl | rfl | rfl | rfl | rfl | rfl | rfl | rfl | rfl | rfl | rfl | rfl | rfl | rfl | rfl | rfl | rfl | rfl | rfl | rfl | rfl | rfl | rfl | rfl | rfl | rfl | rfl | rfl | rfl | rfl | rfl | rfl | rfl
    · exact do_val (Op.move (.tmp 9)) (.func (.func 27) #[] #[]) ho (by kernel_rfl) (by kernel_rfl) (by kernel_rfl) (fun o' h => rn_move h (ev_out (by kernel_rfl) ha9)) (hK _ _ (show Phi13 gb o n nm AC lC cC Z Row 0 _ _ from (by kernel_rfl : (.func (.func 27) #[] #[] : Value) = (VL13 gb o n nm AC lC cC Z).getD 0 undef)) (Below.refl _ _))
    · exact do_val (Op.fieldAddr 24 (.tmp 2) 0) (.pointer (some ⟨gb, 0, none⟩)) ho (by kernel_rfl) (by kernel_rfl) (by kernel_rfl) (fun o' h => rn_field0 h (ev_out (by kernel_rfl) ha2)) (hK _ _ (show Phi13 gb o n nm AC lC cC Z Row 1 _ _ from (by kernel_rfl : (.pointer (some ⟨gb, 0, none⟩) : Value) = (VL13 gb o n nm AC lC cC Z).getD 1 undef)) (Below.refl _ _))
    · have f1 : V 1 = .pointer (some ⟨gb, 0, none⟩) := pre_at (j := 1) ho (by kernel_rfl) (by kernel_rfl) hpre
      exact do_val (Op.load 3 (.tmp 46)) (.int .i64 o) ho (by kernel_rfl) (by kernel_rfl) (by kernel_rfl) (fun o' h => rn_load h (ev_in (j := 1) hsz (by kernel_rfl) (by kernel_rfl) f1) (hcell X hR).1) (hK _ _ (show Phi13 gb o n nm AC lC cC Z Row 2 _ _ from (by kernel_rfl : (.int .i64 o : Value) = (VL13 gb o n nm AC lC cC Z).getD 2 undef)) (Below.refl _ _))
    · have f0 : V 0 = .func (.func 27) #[] #[] := pre_at (j := 0) ho (by kernel_rfl) (by kernel_rfl) hpre
      have f2 : V 2 = .int .i64 o := pre_at (j := 2) ho (by kernel_rfl) (by kernel_rfl) hpre
      refine do_call (Op.call { callee := .value (.tmp 45), args := #[.tmp 47], argTypes := #[3] }) 27 #[.int .i64 o] ho (by kernel_rfl) (by kernel_rfl) (by kernel_rfl) (fun o' h => rn_enter h rfl (ev_in (j := 0) hsz (by kernel_rfl) (by kernel_rfl) f0) (ev_in (j := 2) hsz (by kernel_rfl) (by kernel_rfl) f2)) ((HD1 X).mono ?_)
      rintro e w' ⟨rfl, h⟩
      exact ⟨_, rfl, hK _ _ (show Phi13 gb o n nm AC lC cC Z Row 3 _ _ from (by kernel_rfl : (.string (Z 1) : Value) = (VL13 gb o n nm AC lC cC Z).getD 3 undef)) h⟩
    · have f3 : V 3 = .string (Z 1) := pre_at (j := 3) ho (by kernel_rfl) (by kernel_rfl) hpre
      exact do_val (Op.binOp .add 9 (.const (.string { data := #[66, 85, 78, 68, 76, 69, 32] })) (.tmp 48) 9) (.string (Z 100)) ho (by kernel_rfl) (by kernel_rfl) (by kernel_rfl) (fun o' h => rn_cat h rfl (ev_in (j := 3) hsz (by kernel_rfl) (by kernel_rfl) f3) (hk100 X)) (hK _ _ (show Phi13 gb o n nm AC lC cC Z Row 4 _ _ from (by kernel_rfl : (.string (Z 100) : Value) = (VL13 gb o n nm AC lC cC Z).getD 4 undef)) (Below.refl _ _))
    · have f4 : V 4 = .string (Z 100) := pre_at (j := 4) ho (by kernel_rfl) (by kernel_rfl) hpre
      exact do_val (Op.binOp .add 9 (.tmp 49) (.const (.string { data := #[32, 48] })) 9) (.string (Z 101)) ho (by kernel_rfl) (by kernel_rfl) (by kernel_rfl) (fun o' h => rn_cat h (ev_in (j := 4) hsz (by kernel_rfl) (by kernel_rfl) f4) rfl (hk101 X)) (hK _ _ (show Phi13 gb o n nm AC lC cC Z Row 5 _ _ from (by kernel_rfl : (.string (Z 101) : Value) = (VL13 gb o n nm AC lC cC Z).getD 5 undef)) (Below.refl _ _))
    · exact do_val (Op.move (.tmp 9)) (.func (.func 27) #[] #[]) ho (by kernel_rfl) (by kernel_rfl) (by kernel_rfl) (fun o' h => rn_move h (ev_out (by kernel_rfl) ha9)) (hK _ _ (show Phi13 gb o n nm AC lC cC Z Row 6 _ _ from (by kernel_rfl : (.func (.func 27) #[] #[] : Value) = (VL13 gb o n nm AC lC cC Z).getD 6 undef)) (Below.refl _ _))
    · exact do_val (Op.fieldAddr 24 (.tmp 2) 1) (.pointer (some ⟨gb, 1, none⟩)) ho (by kernel_rfl) (by kernel_rfl) (by kernel_rfl) (fun o' h => rn_field1 h (ev_out (by kernel_rfl) ha2)) (hK _ _ (show Phi13 gb o n nm AC lC cC Z Row 7 _ _ from (by kernel_rfl : (.pointer (some ⟨gb, 1, none⟩) : Value) = (VL13 gb o n nm AC lC cC Z).getD 7 undef)) (Below.refl _ _))
    · have f7 : V 7 = .pointer (some ⟨gb, 1, none⟩) := pre_at (j := 7) ho (by kernel_rfl) (by kernel_rfl) hpre
      exact do_val (Op.load 3 (.tmp 52)) (.int .i64 n) ho (by kernel_rfl) (by kernel_rfl) (by kernel_rfl) (fun o' h => rn_load h (ev_in (j := 7) hsz (by kernel_rfl) (by kernel_rfl) f7) (hcell X hR).2) (hK _ _ (show Phi13 gb o n nm AC lC cC Z Row 8 _ _ from (by kernel_rfl : (.int .i64 n : Value) = (VL13 gb o n nm AC lC cC Z).getD 8 undef)) (Below.refl _ _))
    · have f6 : V 6 = .func (.func 27) #[] #[] := pre_at (j := 6) ho (by kernel_rfl) (by kernel_rfl) hpre
      have f8 : V 8 = .int .i64 n := pre_at (j := 8) ho (by kernel_rfl) (by kernel_rfl) hpre
      refine do_call (Op.call { callee := .value (.tmp 51), args := #[.tmp 53], argTypes := #[3] }) 27 #[.int .i64 n] ho (by kernel_rfl) (by kernel_rfl) (by kernel_rfl) (fun o' h => rn_enter h rfl (ev_in (j := 6) hsz (by kernel_rfl) (by kernel_rfl) f6) (ev_in (j := 8) hsz (by kernel_rfl) (by kernel_rfl) f8)) ((HD2 X).mono ?_)
      rintro e w' ⟨rfl, h⟩
      exact ⟨_, rfl, hK _ _ (show Phi13 gb o n nm AC lC cC Z Row 9 _ _ from (by kernel_rfl : (.string (Z 2) : Value) = (VL13 gb o n nm AC lC cC Z).getD 9 undef)) h⟩
    · have f5 : V 5 = .string (Z 101) := pre_at (j := 5) ho (by kernel_rfl) (by kernel_rfl) hpre
      have f9 : V 9 = .string (Z 2) := pre_at (j := 9) ho (by kernel_rfl) (by kernel_rfl) hpre
      exact do_val (Op.binOp .add 9 (.tmp 50) (.tmp 54) 9) (.string (Z 102)) ho (by kernel_rfl) (by kernel_rfl) (by kernel_rfl) (fun o' h => rn_cat h (ev_in (j := 5) hsz (by kernel_rfl) (by kernel_rfl) f5) (ev_in (j := 9) hsz (by kernel_rfl) (by kernel_rfl) f9) (hk102 X)) (hK _ _ (show Phi13 gb o n nm AC lC cC Z Row 10 _ _ from (by kernel_rfl : (.string (Z 102) : Value) = (VL13 gb o n nm AC lC cC Z).getD 10 undef)) (Below.refl _ _))
    · have f10 : V 10 = .string (Z 102) := pre_at (j := 10) ho (by kernel_rfl) (by kernel_rfl) hpre
      exact do_val (Op.binOp .add 9 (.tmp 55) (.const (.string { data := #[32] })) 9) (.string (Z 103)) ho (by kernel_rfl) (by kernel_rfl) (by kernel_rfl) (fun o' h => rn_cat h (ev_in (j := 10) hsz (by kernel_rfl) (by kernel_rfl) f10) rfl (hk103 X)) (hK _ _ (show Phi13 gb o n nm AC lC cC Z Row 11 _ _ from (by kernel_rfl : (.string (Z 103) : Value) = (VL13 gb o n nm AC lC cC Z).getD 11 undef)) (Below.refl _ _))
    · exact do_val (Op.move (.tmp 9)) (.func (.func 27) #[] #[]) ho (by kernel_rfl) (by kernel_rfl) (by kernel_rfl) (fun o' h => rn_move h (ev_out (by kernel_rfl) ha9)) (hK _ _ (show Phi13 gb o n nm AC lC cC Z Row 12 _ _ from (by kernel_rfl : (.func (.func 27) #[] #[] : Value) = (VL13 gb o n nm AC lC cC Z).getD 12 undef)) (Below.refl _ _))
    · exact do_val (Op.move (.tmp 10)) (.int .i64 nm) ho (by kernel_rfl) (by kernel_rfl) (by kernel_rfl) (fun o' h => rn_move h (ev_out (by kernel_rfl) ha10)) (hK _ _ (show Phi13 gb o n nm AC lC cC Z Row 13 _ _ from (by kernel_rfl : (.int .i64 nm : Value) = (VL13 gb o n nm AC lC cC Z).getD 13 undef)) (Below.refl _ _))
    · have f12 : V 12 = .func (.func 27) #[] #[] := pre_at (j := 12) ho (by kernel_rfl) (by kernel_rfl) hpre
      have f13 : V 13 = .int .i64 nm := pre_at (j := 13) ho (by kernel_rfl) (by kernel_rfl) hpre
      refine do_call (Op.call { callee := .value (.tmp 57), args := #[.tmp 58], argTypes := #[3] }) 27 #[.int .i64 nm] ho (by kernel_rfl) (by kernel_rfl) (by kernel_rfl) (fun o' h => rn_enter h rfl (ev_in (j := 12) hsz (by kernel_rfl) (by kernel_rfl) f12) (ev_in (j := 13) hsz (by kernel_rfl) (by kernel_rfl) f13)) ((HD3 X).mono ?_)
      rintro e w' ⟨rfl, h⟩
      exact ⟨_, rfl, hK _ _ (show Phi13 gb o n nm AC lC cC Z Row 14 _ _ from (by kernel_rfl : (.string (Z 3) : Value) = (VL13 gb o n nm AC lC cC Z).getD 14 undef)) h⟩
    · have f11 : V 11 = .string (Z 103) := pre_at (j := 11) ho (by kernel_rfl) (by kernel_rfl) hpre
      have f14 : V 14 = .string (Z 3) := pre_at (j := 14) ho (by kernel_rfl) (by kernel_rfl) hpre
      exact do_val (Op.binOp .add 9 (.tmp 56) (.tmp 59) 9) (.string (Z 104)) ho (by kernel_rfl) (by kernel_rfl) (by kernel_rfl) (fun o' h => rn_cat h (ev_in (j := 11) hsz (by kernel_rfl) (by kernel_rfl) f11) (ev_in (j := 14) hsz (by kernel_rfl) (by kernel_rfl) f14) (hk104 X)) (hK _ _ (show Phi13 gb o n nm AC lC cC Z Row 15 _ _ from (by kernel_rfl : (.string (Z 104) : Value) = (VL13 gb o n nm AC lC cC Z).getD 15 undef)) (Below.refl _ _))
    · have f15 : V 15 = .string (Z 104) := pre_at (j := 15) ho (by kernel_rfl) (by kernel_rfl) hpre
      exact do_val (Op.binOp .add 9 (.tmp 60) (.const (.string { data := #[32] })) 9) (.string (Z 105)) ho (by kernel_rfl) (by kernel_rfl) (by kernel_rfl) (fun o' h => rn_cat h (ev_in (j := 15) hsz (by kernel_rfl) (by kernel_rfl) f15) rfl (hk105 X)) (hK _ _ (show Phi13 gb o n nm AC lC cC Z Row 16 _ _ from (by kernel_rfl : (.string (Z 105) : Value) = (VL13 gb o n nm AC lC cC Z).getD 16 undef)) (Below.refl _ _))
    · exact do_val (Op.move (.tmp 9)) (.func (.func 27) #[] #[]) ho (by kernel_rfl) (by kernel_rfl) (by kernel_rfl) (fun o' h => rn_move h (ev_out (by kernel_rfl) ha9)) (hK _ _ (show Phi13 gb o n nm AC lC cC Z Row 17 _ _ from (by kernel_rfl : (.func (.func 27) #[] #[] : Value) = (VL13 gb o n nm AC lC cC Z).getD 17 undef)) (Below.refl _ _))
    · exact do_val (Op.move (.tmp 8)) (.slice AC lC cC) ho (by kernel_rfl) (by kernel_rfl) (by kernel_rfl) (fun o' h => rn_move h (ev_out (by kernel_rfl) ha8)) (hK _ _ (show Phi13 gb o n nm AC lC cC Z Row 18 _ _ from (by kernel_rfl : (.slice AC lC cC : Value) = (VL13 gb o n nm AC lC cC Z).getD 18 undef)) (Below.refl _ _))
    · have f18 : V 18 = .slice AC lC cC := pre_at (j := 18) ho (by kernel_rfl) (by kernel_rfl) hpre
      exact do_val (Op.call { callee := .builtin .len, args := #[.tmp 63], argTypes := #[25] }) (.int .i64 (lC : Int)) ho (by kernel_rfl) (by kernel_rfl) (by kernel_rfl) (fun o' h => rn_len h (ev_in (j := 18) hsz (by kernel_rfl) (by kernel_rfl) f18)) (hK _ _ (show Phi13 gb o n nm AC lC cC Z Row 19 _ _ from (by kernel_rfl : (.int .i64 (lC : Int) : Value) = (VL13 gb o n nm AC lC cC Z).getD 19 undef)) (Below.refl _ _))
    · have f17 : V 17 = .func (.func 27) #[] #[] := pre_at (j := 17) ho (by kernel_rfl) (by kernel_rfl) hpre
      have f19 : V 19 = .int .i64 (lC : Int) := pre_at (j := 19) ho (by kernel_rfl) (by kernel_rfl) hpre
      refine do_call (Op.call { callee := .value (.tmp 62), args := #[.tmp 64], argTypes := #[3] }) 27 #[.int .i64 (lC : Int)] ho (by kernel_rfl) (by kernel_rfl) (by kernel_rfl) (fun o' h => rn_enter h rfl (ev_in (j := 17) hsz (by kernel_rfl) (by kernel_rfl) f17) (ev_in (j := 19) hsz (by kernel_rfl) (by kernel_rfl) f19)) ((HD4 X).mono ?_)
      rintro e w' ⟨rfl, h⟩
      exact ⟨_, rfl, hK _ _ (show Phi13 gb o n nm AC lC cC Z Row 20 _ _ from (by kernel_rfl : (.string (Z 4) : Value) = (VL13 gb o n nm AC lC cC Z).getD 20 undef)) h⟩
    · have f16 : V 16 = .string (Z 105) := pre_at (j := 16) ho (by kernel_rfl) (by kernel_rfl) hpre
      have f20 : V 20 = .string (Z 4) := pre_at (j := 20) ho (by kernel_rfl) (by kernel_rfl) hpre
      exact do_val (Op.binOp .add 9 (.tmp 61) (.tmp 65) 9) (.string (Z 106)) ho (by kernel_rfl) (by kernel_rfl) (by kernel_rfl) (fun o' h => rn_cat h (ev_in (j := 16) hsz (by kernel_rfl) (by kernel_rfl) f16) (ev_in (j := 20) hsz (by kernel_rfl) (by kernel_rfl) f20) (hk106 X)) (hK _ _ (show Phi13 gb o n nm AC lC cC Z Row 21 _ _ from (by kernel_rfl : (.string (Z 106) : Value) = (VL13 gb o n nm AC lC cC Z).getD 21 undef)) (Below.refl _ _))
    · have f21 : V 21 = .string (Z 106) := pre_at (j := 21) ho (by kernel_rfl) (by kernel_rfl) hpre
      exact do_val (Op.binOp .add 9 (.tmp 66) (.const (.string { data := #[32] })) 9) (.string (Z 107)) ho (by kernel_rfl) (by kernel_rfl) (by kernel_rfl) (fun o' h => rn_cat h (ev_in (j := 21) hsz (by kernel_rfl) (by kernel_rfl) f21) rfl (hk107 X)) (hK _ _ (show Phi13 gb o n nm AC lC cC Z Row 22 _ _ from (by kernel_rfl : (.string (Z 107) : Value) = (VL13 gb o n nm AC lC cC Z).getD 22 undef)) (Below.refl _ _))
    · exact do_val (Op.move (.tmp 11)) (.string (Z 5)) ho (by kernel_rfl) (by kernel_rfl) (by kernel_rfl) (fun o' h => rn_move h (ev_out (by kernel_rfl) ha11)) (hK _ _ (show Phi13 gb o n nm AC lC cC Z Row 23 _ _ from (by kernel_rfl : (.string (Z 5) : Value) = (VL13 gb o n nm AC lC cC Z).getD 23 undef)) (Below.refl _ _))
    · have f22 : V 22 = .string (Z 107) := pre_at (j := 22) ho (by kernel_rfl) (by kernel_rfl) hpre
      have f23 : V 23 = .string (Z 5) := pre_at (j := 23) ho (by kernel_rfl) (by kernel_rfl) hpre
      exact do_val (Op.binOp .add 9 (.tmp 67) (.tmp 68) 9) (.string (Z 108)) ho (by kernel_rfl) (by kernel_rfl) (by kernel_rfl) (fun o' h => rn_cat h (ev_in (j := 22) hsz (by kernel_rfl) (by kernel_rfl) f22) (ev_in (j := 23) hsz (by kernel_rfl) (by kernel_rfl) f23) (hk108 X)) (hK _ _ (show Phi13 gb o n nm AC lC cC Z Row 24 _ _ from (by kernel_rfl : (.string (Z 108) : Value) = (VL13 gb o n nm AC lC cC Z).getD 24 undef)) (Below.refl _ _))
    · exact do_val (Op.move (.tmp 9)) (.func (.func 27) #[] #[]) ho (by kernel_rfl) (by kernel_rfl) (by kernel_rfl) (fun o' h => rn_move h (ev_out (by kernel_rfl) ha9)) (hK _ _ (show Phi13 gb o n nm AC lC cC Z Row 25 _ _ from (by kernel_rfl : (.func (.func 27) #[] #[] : Value) = (VL13 gb o n nm AC lC cC Z).getD 25 undef)) (Below.refl _ _))
    · exact do_val (Op.fieldAddr 24 (.tmp 2) 0) (.pointer (some ⟨gb, 0, none⟩)) ho (by kernel_rfl) (by kernel_rfl) (by kernel_rfl) (fun o' h => rn_field0 h (ev_out (by kernel_rfl) ha2)) (hK _ _ (show Phi13 gb o n nm AC lC cC Z Row 26 _ _ from (by kernel_rfl : (.pointer (some ⟨gb, 0, none⟩) : Value) = (VL13 gb o n nm AC lC cC Z).getD 26 undef)) (Below.refl _ _))
    · have f26 : V 26 = .pointer (some ⟨gb, 0, none⟩) := pre_at (j := 26) ho (by kernel_rfl) (by kernel_rfl) hpre
      exact do_val (Op.load 3 (.tmp 71)) (.int .i64 o) ho (by kernel_rfl) (by kernel_rfl) (by kernel_rfl) (fun o' h => rn_load h (ev_in (j := 26) hsz (by kernel_rfl) (by kernel_rfl) f26) (hcell X hR).1) (hK _ _ (show Phi13 gb o n nm AC lC cC Z Row 27 _ _ from (by kernel_rfl : (.int .i64 o : Value) = (VL13 gb o n nm AC lC cC Z).getD 27 undef)) (Below.refl _ _))
    · have f25 : V 25 = .func (.func 27) #[] #[] := pre_at (j := 25) ho (by kernel_rfl) (by kernel_rfl) hpre
      have f27 : V 27 = .int .i64 o := pre_at (j := 27) ho (by kernel_rfl) (by kernel_rfl) hpre
      refine do_call (Op.call { callee := .value (.tmp 70), args := #[.tmp 72], argTypes := #[3] }) 27 #[.int .i64 o] ho (by kernel_rfl) (by kernel_rfl) (by kernel_rfl) (fun o' h => rn_enter h rfl (ev_in (j := 25) hsz (by kernel_rfl) (by kernel_rfl) f25) (ev_in (j := 27) hsz (by kernel_rfl) (by kernel_rfl) f27)) ((HD1 X).mono ?_)
      rintro e w' ⟨rfl, h⟩
      exact ⟨_, rfl, hK _ _ (show Phi13 gb o n nm AC lC cC Z Row 28 _ _ from (by kernel_rfl : (.string (Z 1) : Value) = (VL13 gb o n nm AC lC cC Z).getD 28 undef)) h⟩
    · have f28 : V 28 = .string (Z 1) := pre_at (j := 28) ho (by kernel_rfl) (by kernel_rfl) hpre
      exact do_val (Op.binOp .add 9 (.const (.string { data := #[98, 117, 110, 100, 108, 101, 32] })) (.tmp 73) 9) (.string (Z 109)) ho (by kernel_rfl) (by kernel_rfl) (by kernel_rfl) (fun o' h => rn_cat h rfl (ev_in (j := 28) hsz (by kernel_rfl) (by kernel_rfl) f28) (hk109 X)) (hK _ _ (show Phi13 gb o n nm AC lC cC Z Row 29 _ _ from (by kernel_rfl : (.string (Z 109) : Value) = (VL13 gb o n nm AC lC cC Z).getD 29 undef)) (Below.refl _ _))
    · have f29 : V 29 = .string (Z 109) := pre_at (j := 29) ho (by kernel_rfl) (by kernel_rfl) hpre
      exact do_val (Op.binOp .add 9 (.tmp 74) (.const (.string { data := #[32] })) 9) (.string (Z 110)) ho (by kernel_rfl) (by kernel_rfl) (by kernel_rfl) (fun o' h => rn_cat h (ev_in (j := 29) hsz (by kernel_rfl) (by kernel_rfl) f29) rfl (hk110 X)) (hK _ _ (show Phi13 gb o n nm AC lC cC Z Row 30 _ _ from (by kernel_rfl : (.string (Z 110) : Value) = (VL13 gb o n nm AC lC cC Z).getD 30 undef)) (Below.refl _ _))
    · exact do_val (Op.move (.tmp 9)) (.func (.func 27) #[] #[]) ho (by kernel_rfl) (by kernel_rfl) (by kernel_rfl) (fun o' h => rn_move h (ev_out (by kernel_rfl) ha9)) (hK _ _ (show Phi13 gb o n nm AC lC cC Z Row 31 _ _ from (by kernel_rfl : (.func (.func 27) #[] #[] : Value) = (VL13 gb o n nm AC lC cC Z).getD 31 undef)) (Below.refl _ _))
    · exact do_val (Op.fieldAddr 24 (.tmp 2) 1) (.pointer (some ⟨gb, 1, none⟩)) ho (by kernel_rfl) (by kernel_rfl) (by kernel_rfl) (fun o' h => rn_field1 h (ev_out (by kernel_rfl) ha2)) (hK _ _ (show Phi13 gb o n nm AC lC cC Z Row 32 _ _ from (by kernel_rfl : (.pointer (some ⟨gb, 1, none⟩) : Value) = (VL13 gb o n nm AC lC cC Z).getD 32 undef)) (Below.refl _ _))
    · have f32 : V 32 = .pointer (some ⟨gb, 1, none⟩) := pre_at (j := 32) ho (by kernel_rfl) (by kernel_rfl) hpre
      exact do_val (Op.load 3 (.tmp 77)) (.int .i64 n) ho (by kernel_rfl) (by kernel_rfl) (by kernel_rfl) (fun o' h => rn_load h (ev_in (j := 32) hsz (by kernel_rfl) (by kernel_rfl) f32) (hcell X hR).2) (hK _ _ (show Phi13 gb o n nm AC lC cC Z Row 33 _ _ from (by kernel_rfl : (.int .i64 n : Value) = (VL13 gb o n nm AC lC cC Z).getD 33 undef)) (Below.refl _ _))
    · have f31 : V 31 = .func (.func 27) #[] #[] := pre_at (j := 31) ho (by kernel_rfl) (by kernel_rfl) hpre
      have f33 : V 33 = .int .i64 n := pre_at (j := 33) ho (by kernel_rfl) (by kernel_rfl) hpre
      refine do_call (Op.call { callee := .value (.tmp 76), args := #[.tmp 78], argTypes := #[3] }) 27 #[.int .i64 n] ho (by kernel_rfl) (by kernel_rfl) (by kernel_rfl) (fun o' h => rn_enter h rfl (ev_in (j := 31) hsz (by kernel_rfl) (by kernel_rfl) f31) (ev_in (j := 33) hsz (by kernel_rfl) (by kernel_rfl) f33)) ((HD2 X).mono ?_)
      rintro e w' ⟨rfl, h⟩
      exact ⟨_, rfl, hK _ _ (show Phi13 gb o n nm AC lC cC Z Row 34 _ _ from (by kernel_rfl : (.string (Z 2) : Value) = (VL13 gb o n nm AC lC cC Z).getD 34 undef)) h⟩
    · have f30 : V 30 = .string (Z 110) := pre_at (j := 30) ho (by kernel_rfl) (by kernel_rfl) hpre
      have f34 : V 34 = .string (Z 2) := pre_at (j := 34) ho (by kernel_rfl) (by kernel_rfl) hpre
      exact do_val (Op.binOp .add 9 (.tmp 75) (.tmp 79) 9) (.string (Z 111)) ho (by kernel_rfl) (by kernel_rfl) (by kernel_rfl) (fun o' h => rn_cat h (ev_in (j := 30) hsz (by kernel_rfl) (by kernel_rfl) f30) (ev_in (j := 34) hsz (by kernel_rfl) (by kernel_rfl) f34) (hk111 X)) (hK _ _ (show Phi13 gb o n nm AC lC cC Z Row 35 _ _ from (by kernel_rfl : (.string (Z 111) : Value) = (VL13 gb o n nm AC lC cC Z).getD 35 undef)) (Below.refl _ _))
    · have f35 : V 35 = .string (Z 111) := pre_at (j := 35) ho (by kernel_rfl) (by kernel_rfl) hpre
      exact do_val (Op.binOp .add 9 (.tmp 80) (.const (.string { data := #[32] })) 9) (.string (Z 112)) ho (by kernel_rfl) (by kernel_rfl) (by kernel_rfl) (fun o' h => rn_cat h (ev_in (j := 35) hsz (by kernel_rfl) (by kernel_rfl) f35) rfl (hk112 X)) (hK _ _ (show Phi13 gb o n nm AC lC cC Z Row 36 _ _ from (by kernel_rfl : (.string (Z 112) : Value) = (VL13 gb o n nm AC lC cC Z).getD 36 undef)) (Below.refl _ _))
    · exact do_val (Op.move (.tmp 9)) (.func (.func 27) #[] #[]) ho (by kernel_rfl) (by kernel_rfl) (by kernel_rfl) (fun o' h => rn_move h (ev_out (by kernel_rfl) ha9)) (hK _ _ (show Phi13 gb o n nm AC lC cC Z Row 37 _ _ from (by kernel_rfl : (.func (.func 27) #[] #[] : Value) = (VL13 gb o n nm AC lC cC Z).getD 37 undef)) (Below.refl _ _))
    · exact do_val (Op.move (.tmp 10)) (.int .i64 nm) ho (by kernel_rfl) (by kernel_rfl) (by kernel_rfl) (fun o' h => rn_move h (ev_out (by kernel_rfl) ha10)) (hK _ _ (show Phi13 gb o n nm AC lC cC Z Row 38 _ _ from (by kernel_rfl : (.int .i64 nm : Value) = (VL13 gb o n nm AC lC cC Z).getD 38 undef)) (Below.refl _ _))
    · have f37 : V 37 = .func (.func 27) #[] #[] := pre_at (j := 37) ho (by kernel_rfl) (by kernel_rfl) hpre
      have f38 : V 38 = .int .i64 nm := pre_at (j := 38) ho (by kernel_rfl) (by kernel_rfl) hpre
      refine do_call (Op.call { callee := .value (.tmp 82), args := #[.tmp 83], argTypes := #[3] }) 27 #[.int .i64 nm] ho (by kernel_rfl) (by kernel_rfl) (by kernel_rfl) (fun o' h => rn_enter h rfl (ev_in (j := 37) hsz (by kernel_rfl) (by kernel_rfl) f37) (ev_in (j := 38) hsz (by kernel_rfl) (by kernel_rfl) f38)) ((HD3 X).mono ?_)
      rintro e w' ⟨rfl, h⟩
      exact ⟨_, rfl, hK _ _ (show Phi13 gb o n nm AC lC cC Z Row 39 _ _ from (by kernel_rfl : (.string (Z 3) : Value) = (VL13 gb o n nm AC lC cC Z).getD 39 undef)) h⟩
    · have f36 : V 36 = .string (Z 112) := pre_at (j := 36) ho (by kernel_rfl) (by kernel_rfl) hpre
      have f39 : V 39 = .string (Z 3) := pre_at (j := 39) ho (by kernel_rfl) (by kernel_rfl) hpre
      exact do_val (Op.binOp .add 9 (.tmp 81) (.tmp 84) 9) (.string (Z 113)) ho (by kernel_rfl) (by kernel_rfl) (by kernel_rfl) (fun o' h => rn_cat h (ev_in (j := 36) hsz (by kernel_rfl) (by kernel_rfl) f36) (ev_in (j := 39) hsz (by kernel_rfl) (by kernel_rfl) f39) (hk113 X)) (hK _ _ (show Phi13 gb o n nm AC lC cC Z Row 40 _ _ from (by kernel_rfl : (.string (Z 113) : Value) = (VL13 gb o n nm AC lC cC Z).getD 40 undef)) (Below.refl _ _))
    · have f40 : V 40 = .string (Z 113) := pre_at (j := 40) ho (by kernel_rfl) (by kernel_rfl) hpre
      exact do_val (Op.binOp .add 9 (.tmp 85) (.const (.string { data := #[32] })) 9) (.string (Z 114)) ho (by kernel_rfl) (by kernel_rfl) (by kernel_rfl) (fun o' h => rn_cat h (ev_in (j := 40) hsz (by kernel_rfl) (by kernel_rfl) f40) rfl (hk114 X)) (hK _ _ (show Phi13 gb o n nm AC lC cC Z Row 41 _ _ from (by kernel_rfl : (.string (Z 114) : Value) = (VL13 gb o n nm AC lC cC Z).getD 41 undef)) (Below.refl _ _))
    · exact do_val (Op.move (.tmp 9)) (.func (.func 27) #[] #[]) ho (by kernel_rfl) (by kernel_rfl) (by kernel_rfl) (fun o' h => rn_move h (ev_out (by kernel_rfl) ha9)) (hK _ _ (show Phi13 gb o n nm AC lC cC Z Row 42 _ _ from (by kernel_rfl : (.func (.func 27) #[] #[] : Value) = (VL13 gb o n nm AC lC cC Z).getD 42 undef)) (Below.refl _ _))
    · exact do_val (Op.move (.tmp 8)) (.slice AC lC cC) ho (by kernel_rfl) (by kernel_rfl) (by kernel_rfl) (fun o' h => rn_move h (ev_out (by kernel_rfl) ha8)) (hK _ _ (show Phi13 gb o n nm AC lC cC Z Row 43 _ _ from (by kernel_rfl : (.slice AC lC cC : Value) = (VL13 gb o n nm AC lC cC Z).getD 43 undef)) (Below.refl _ _))
    · have f43 : V 43 = .slice AC lC cC := pre_at (j := 43) ho (by kernel_rfl) (by kernel_rfl) hpre
      exact do_val (Op.call { callee := .builtin .len, args := #[.tmp 88], argTypes := #[25] }) (.int .i64 (lC : Int)) ho (by kernel_rfl) (by kernel_rfl) (by kernel_rfl) (fun o' h => rn_len h (ev_in (j := 43) hsz (by kernel_rfl) (by kernel_rfl) f43)) (hK _ _ (show Phi13 gb o n nm AC lC cC Z Row 44 _ _ from (by kernel_rfl : (.int .i64 (lC : Int) : Value) = (VL13 gb o n nm AC lC cC Z).getD 44 undef)) (Below.refl _ _))
    · have f42 : V 42 = .func (.func 27) #[] #[] := pre_at (j := 42) ho (by kernel_rfl) (by kernel_rfl) hpre
      have f44 : V 44 = .int .i64 (lC : Int) := pre_at (j := 44) ho (by kernel_rfl) (by kernel_rfl) hpre
      refine do_call (Op.call { callee := .value (.tmp 87), args := #[.tmp 89], argTypes := #[3] }) 27 #[.int .i64 (lC : Int)] ho (by kernel_rfl) (by kernel_rfl) (by kernel_rfl) (fun o' h => rn_enter h rfl (ev_in (j := 42) hsz (by kernel_rfl) (by kernel_rfl) f42) (ev_in (j := 44) hsz (by kernel_rfl) (by kernel_rfl) f44)) ((HD4 X).mono ?_)
      rintro e w' ⟨rfl, h⟩
      exact ⟨_, rfl, hK _ _ (show Phi13 gb o n nm AC lC cC Z Row 45 _ _ from (by kernel_rfl : (.string (Z 4) : Value) = (VL13 gb o n nm AC lC cC Z).getD 45 undef)) h⟩
    · have f41 : V 41 = .string (Z 114) := pre_at (j := 41) ho (by kernel_rfl) (by kernel_rfl) hpre
      have f45 : V 45 = .string (Z 4) := pre_at (j := 45) ho (by kernel_rfl) (by kernel_rfl) hpre
      exact do_val (Op.binOp .add 9 (.tmp 86) (.tmp 90) 9) (.string (Z 115)) ho (by kernel_rfl) (by kernel_rfl) (by kernel_rfl) (fun o' h => rn_cat h (ev_in (j := 41) hsz (by kernel_rfl) (by kernel_rfl) f41) (ev_in (j := 45) hsz (by kernel_rfl) (by kernel_rfl) f45) (hk115 X)) (hK _ _ (show Phi13 gb o n nm AC lC cC Z Row 46 _ _ from (by kernel_rfl : (.string (Z 115) : Value) = (VL13 gb o n nm AC lC cC Z).getD 46 undef)) (Below.refl _ _))
    · have f46 : V 46 = .string (Z 115) := pre_at (j := 46) ho (by kernel_rfl) (by kernel_rfl) hpre
      exact do_val (Op.binOp .add 9 (.tmp 91) (.const (.string { data := #[32] })) 9) (.string (Z 116)) ho (by kernel_rfl) (by kernel_rfl) (by kernel_rfl) (fun o' h => rn_cat h (ev_in (j := 46) hsz (by kernel_rfl) (by kernel_rfl) f46) rfl (hk116 X)) (hK _ _ (show Phi13 gb o n nm AC lC cC Z Row 47 _ _ from (by kernel_rfl : (.string (Z 116) : Value) = (VL13 gb o n nm AC lC cC Z).getD 47 undef)) (Below.refl _ _))
    · exact do_val (Op.move (.tmp 11)) (.string (Z 5)) ho (by kernel_rfl) (by kernel_rfl) (by kernel_rfl) (fun o' h => rn_move h (ev_out (by kernel_rfl) ha11)) (hK _ _ (show Phi13 gb o n nm AC lC cC Z Row 48 _ _ from (by kernel_rfl : (.string (Z 5) : Value) = (VL13 gb o n nm AC lC cC Z).getD 48 undef)) (Below.refl _ _))
    · have f47 : V 47 = .string (Z 116) := pre_at (j := 47) ho (by kernel_rfl) (by kernel_rfl) hpre
      have f48 : V 48 = .string (Z 5) := pre_at (j := 48) ho (by kernel_rfl) (by kernel_rfl) hpre
      exact do_val (Op.binOp .add 9 (.tmp 92) (.tmp 93) 9) (.string (Z 117)) ho (by kernel_rfl) (by kernel_rfl) (by kernel_rfl) (fun o' h => rn_cat h (ev_in (j := 47) hsz (by kernel_rfl) (by kernel_rfl) f47) (ev_in (j := 48) hsz (by kernel_rfl) (by kernel_rfl) f48) (hk117 X)) (hK _ _ (show Phi13 gb o n nm AC lC cC Z Row 49 _ _ from (by kernel_rfl : (.string (Z 117) : Value) = (VL13 gb o n nm AC lC cC Z).getD 49 undef)) (Below.refl _ _))
    · exact do_val (Op.move (.tmp 9)) (.func (.func 27) #[] #[]) ho (by kernel_rfl) (by kernel_rfl) (by kernel_rfl) (fun o' h => rn_move h (ev_out (by kernel_rfl) ha9)) (hK _ _ (show Phi13 gb o n nm AC lC cC Z Row 50 _ _ from (by kernel_rfl : (.func (.func 27) #[] #[] : Value) = (VL13 gb o n nm AC lC cC Z).getD 50 undef)) (Below.refl _ _))
    · exact do_val (Op.fieldAddr 24 (.tmp 2) 0) (.pointer (some ⟨gb, 0, none⟩)) ho (by kernel_rfl) (by kernel_rfl) (by kernel_rfl) (fun o' h => rn_field0 h (ev_out (by kernel_rfl) ha2)) (hK _ _ (show Phi13 gb o n nm AC lC cC Z Row 51 _ _ from (by kernel_rfl : (.pointer (some ⟨gb, 0, none⟩) : Value) = (VL13 gb o n nm AC lC cC Z).getD 51 undef)) (Below.refl _ _))
    · have f51 : V 51 = .pointer (some ⟨gb, 0, none⟩) := pre_at (j := 51) ho (by kernel_rfl) (by kernel_rfl) hpre
      exact do_val (Op.load 3 (.tmp 96)) (.int .i64 o) ho (by kernel_rfl) (by kernel_rfl) (by kernel_rfl) (fun o' h => rn_load h (ev_in (j := 51) hsz (by kernel_rfl) (by kernel_rfl) f51) (hcell X hR).1) (hK _ _ (show Phi13 gb o n nm AC lC cC Z Row 52 _ _ from (by kernel_rfl : (.int .i64 o : Value) = (VL13 gb o n nm AC lC cC Z).getD 52 undef)) (Below.refl _ _))
    · have f52 : V 52 = .int .i64 o := pre_at (j := 52) ho (by kernel_rfl) (by kernel_rfl) hpre
      exact do_val (Op.binOp .add 3 (.tmp 97) (.const (.int .i64 2)) 3) (.int .i64 (o + 2)) ho (by kernel_rfl) (by kernel_rfl) (by kernel_rfl) (fun o' h => rn_addi h (ev_in (j := 52) hsz (by kernel_rfl) (by kernel_rfl) f52) rfl hw1) (hK _ _ (show Phi13 gb o n nm AC lC cC Z Row 53 _ _ from (by kernel_rfl : (.int .i64 (o + 2) : Value) = (VL13 gb o n nm AC lC cC Z).getD 53 undef)) (Below.refl _ _))
    · have f50 : V 50 = .func (.func 27) #[] #[] := pre_at (j := 50) ho (by kernel_rfl) (by kernel_rfl) hpre
      have f53 : V 53 = .int .i64 (o + 2) := pre_at (j := 53) ho (by kernel_rfl) (by kernel_rfl) hpre
      refine do_call (Op.call { callee := .value (.tmp 95), args := #[.tmp 98], argTypes := #[3] }) 27 #[.int .i64 (o + 2)] ho (by kernel_rfl) (by kernel_rfl) (by kernel_rfl) (fun o' h => rn_enter h rfl (ev_in (j := 50) hsz (by kernel_rfl) (by kernel_rfl) f50) (ev_in (j := 53) hsz (by kernel_rfl) (by kernel_rfl) f53)) ((HG1 X).mono ?_)
      rintro e w' ⟨rfl, h⟩
      exact ⟨_, rfl, hK _ _ (show Phi13 gb o n nm AC lC cC Z Row 54 _ _ from (by kernel_rfl : (.string (Z 11) : Value) = (VL13 gb o n nm AC lC cC Z).getD 54 undef)) h⟩
    · have f54 : V 54 = .string (Z 11) := pre_at (j := 54) ho (by kernel_rfl) (by kernel_rfl) hpre
      exact do_val (Op.binOp .add 9 (.const (.string { data := #[66, 85, 78, 68, 76, 69, 32] })) (.tmp 99) 9) (.string (Z 118)) ho (by kernel_rfl) (by kernel_rfl) (by kernel_rfl) (fun o' h => rn_cat h rfl (ev_in (j := 54) hsz (by kernel_rfl) (by kernel_rfl) f54) (hk118 X)) (hK _ _ (show Phi13 gb o n nm AC lC cC Z Row 55 _ _ from (by kernel_rfl : (.string (Z 118) : Value) = (VL13 gb o n nm AC lC cC Z).getD 55 undef)) (Below.refl _ _))
    · have f55 : V 55 = .string (Z 118) := pre_at (j := 55) ho (by kernel_rfl) (by kernel_rfl) hpre
      exact do_val (Op.binOp .add 9 (.tmp 100) (.const (.string { data := #[32] })) 9) (.string (Z 119)) ho (by kernel_rfl) (by kernel_rfl) (by kernel_rfl) (fun o' h => rn_cat h (ev_in (j := 55) hsz (by kernel_rfl) (by kernel_rfl) f55) rfl (hk119 X)) (hK _ _ (show Phi13 gb o n nm AC lC cC Z Row 56 _ _ from (by kernel_rfl : (.string (Z 119) : Value) = (VL13 gb o n nm AC lC cC Z).getD 56 undef)) (Below.refl _ _))
    · exact do_val (Op.move (.tmp 9)) (.func (.func 27) #[] #[]) ho (by kernel_rfl) (by kernel_rfl) (by kernel_rfl) (fun o' h => rn_move h (ev_out (by kernel_rfl) ha9)) (hK _ _ (show Phi13 gb o n nm AC lC cC Z Row 57 _ _ from (by kernel_rfl : (.func (.func 27) #[] #[] : Value) = (VL13 gb o n nm AC lC cC Z).getD 57 undef)) (Below.refl _ _))
    · exact do_val (Op.fieldAddr 24 (.tmp 2) 1) (.pointer (some ⟨gb, 1, none⟩)) ho (by kernel_rfl) (by kernel_rfl) (by kernel_rfl) (fun o' h => rn_field1 h (ev_out (by kernel_rfl) ha2)) (hK _ _ (show Phi13 gb o n nm AC lC cC Z Row 58 _ _ from (by kernel_rfl : (.pointer (some ⟨gb, 1, none⟩) : Value) = (VL13 gb o n nm AC lC cC Z).getD 58 undef)) (Below.refl _ _))
    · have f58 : V 58 = .pointer (some ⟨gb, 1, none⟩) := pre_at (j := 58) ho (by kernel_rfl) (by kernel_rfl) hpre
      exact do_val (Op.load 3 (.tmp 103)) (.int .i64 n) ho (by kernel_rfl) (by kernel_rfl) (by kernel_rfl) (fun o' h => rn_load h (ev_in (j := 58) hsz (by kernel_rfl) (by kernel_rfl) f58) (hcell X hR).2) (hK _ _ (show Phi13 gb o n nm AC lC cC Z Row 59 _ _ from (by kernel_rfl : (.int .i64 n : Value) = (VL13 gb o n nm AC lC cC Z).getD 59 undef)) (Below.refl _ _))
    · have f57 : V 57 = .func (.func 27) #[] #[] := pre_at (j := 57) ho (by kernel_rfl) (by kernel_rfl) hpre
      have f59 : V 59 = .int .i64 n := pre_at (j := 59) ho (by kernel_rfl) (by kernel_rfl) hpre
      refine do_call (Op.call { callee := .value (.tmp 102), args := #[.tmp 104], argTypes := #[3] }) 27 #[.int .i64 n] ho (by kernel_rfl) (by kernel_rfl) (by kernel_rfl) (fun o' h => rn_enter h rfl (ev_in (j := 57) hsz (by kernel_rfl) (by kernel_rfl) f57) (ev_in (j := 59) hsz (by kernel_rfl) (by kernel_rfl) f59)) ((HD2 X).mono ?_)
      rintro e w' ⟨rfl, h⟩
      exact ⟨_, rfl, hK _ _ (show Phi13 gb o n nm AC lC cC Z Row 60 _ _ from (by kernel_rfl : (.string (Z 2) : Value) = (VL13 gb o n nm AC lC cC Z).getD 60 undef)) h⟩
    · have f56 : V 56 = .string (Z 119) := pre_at (j := 56) ho (by kernel_rfl) (by kernel_rfl) hpre
      have f60 : V 60 = .string (Z 2) := pre_at (j := 60) ho (by kernel_rfl) (by kernel_rfl) hpre
      exact do_val (Op.binOp .add 9 (.tmp 101) (.tmp 105) 9) (.string (Z 120)) ho (by kernel_rfl) (by kernel_rfl) (by kernel_rfl) (fun o' h => rn_cat h (ev_in (j := 56) hsz (by kernel_rfl) (by kernel_rfl) f56) (ev_in (j := 60) hsz (by kernel_rfl) (by kernel_rfl) f60) (hk120 X)) (hK _ _ (show Phi13 gb o n nm AC lC cC Z Row 61 _ _ from (by kernel_rfl : (.string (Z 120) : Value) = (VL13 gb o n nm AC lC cC Z).getD 61 undef)) (Below.refl _ _))
    · have f61 : V 61 = .string (Z 120) := pre_at (j := 61) ho (by kernel_rfl) (by kernel_rfl) hpre
      exact do_val (Op.binOp .add 9 (.tmp 106) (.const (.string { data := #[32] })) 9) (.string (Z 121)) ho (by kernel_rfl) (by kernel_rfl) (by kernel_rfl) (fun o' h => rn_cat h (ev_in (j := 61) hsz (by kernel_rfl) (by kernel_rfl) f61) rfl (hk121 X)) (hK _ _ (show Phi13 gb o n nm AC lC cC Z Row 62 _ _ from (by kernel_rfl : (.string (Z 121) : Value) = (VL13 gb o n nm AC lC cC Z).getD 62 undef)) (Below.refl _ _))
    · exact do_val (Op.move (.tmp 9)) (.func (.func 27) #[] #[]) ho (by kernel_rfl) (by kernel_rfl) (by kernel_rfl) (fun o' h => rn_move h (ev_out (by kernel_rfl) ha9)) (hK _ _ (show Phi13 gb o n nm AC lC cC Z Row 63 _ _ from (by kernel_rfl : (.func (.func 27) #[] #[] : Value) = (VL13 gb o n nm AC lC cC Z).getD 63 undef)) (Below.refl _ _))
    · exact do_val (Op.move (.tmp 10)) (.int .i64 nm) ho (by kernel_rfl) (by kernel_rfl) (by kernel_rfl) (fun o' h => rn_move h (ev_out (by kernel_rfl) ha10)) (hK _ _ (show Phi13 gb o n nm AC lC cC Z Row 64 _ _ from (by kernel_rfl : (.int .i64 nm : Value) = (VL13 gb o n nm AC lC cC Z).getD 64 undef)) (Below.refl _ _))
    · have f63 : V 63 = .func (.func 27) #[] #[] := pre_at (j := 63) ho (by kernel_rfl) (by kernel_rfl) hpre
      have f64 : V 64 = .int .i64 nm := pre_at (j := 64) ho (by kernel_rfl) (by kernel_rfl) hpre
      refine do_call (Op.call { callee := .value (.tmp 108), args := #[.tmp 109], argTypes := #[3] }) 27 #[.int .i64 nm] ho (by kernel_rfl) (by kernel_rfl) (by kernel_rfl) (fun o' h => rn_enter h rfl (ev_in (j := 63) hsz (by kernel_rfl) (by kernel_rfl) f63) (ev_in (j := 64) hsz (by kernel_rfl) (by kernel_rfl) f64)) ((HD3 X).mono ?_)
      rintro e w' ⟨rfl, h⟩
      exact ⟨_, rfl, hK _ _ (show Phi13 gb o n nm AC lC cC Z Row 65 _ _ from (by kernel_rfl : (.string (Z 3) : Value) = (VL13 gb o n nm AC lC cC Z).getD 65 undef)) h⟩
    · have f62 : V 62 = .string (Z 121) := pre_at (j := 62) ho (by kernel_rfl) (by kernel_rfl) hpre
      have f65 : V 65 = .string (Z 3) := pre_at (j := 65) ho (by kernel_rfl) (by kernel_rfl) hpre
      exact do_val (Op.binOp .add 9 (.tmp 107) (.tmp 110) 9) (.string (Z 122)) ho (by kernel_rfl) (by kernel_rfl) (by kernel_rfl) (fun o' h => rn_cat h (ev_in (j := 62) hsz (by kernel_rfl) (by kernel_rfl) f62) (ev_in (j := 65) hsz (by kernel_rfl) (by kernel_rfl) f65) (hk122 X)) (hK _ _ (show Phi13 gb o n nm AC lC cC Z Row 66 _ _ from (by kernel_rfl : (.string (Z 122) : Value) = (VL13 gb o n nm AC lC cC Z).getD 66 undef)) (Below.refl _ _))
    · have f66 : V 66 = .string (Z 122) := pre_at (j := 66) ho (by kernel_rfl) (by kernel_rfl) hpre
      exact do_val (Op.binOp .add 9 (.tmp 111) (.const (.string { data := #[32] })) 9) (.string (Z 123)) ho (by kernel_rfl) (by kernel_rfl) (by kernel_rfl) (fun o' h => rn_cat h (ev_in (j := 66) hsz (by kernel_rfl) (by kernel_rfl) f66) rfl (hk123 X)) (hK _ _ (show Phi13 gb o n nm AC lC cC Z Row 67 _ _ from (by kernel_rfl : (.string (Z 123) : Value) = (VL13 gb o n nm AC lC cC Z).getD 67 undef)) (Below.refl _ _))
    · exact do_val (Op.move (.tmp 9)) (.func (.func 27) #[] #[]) ho (by kernel_rfl) (by kernel_rfl) (by kernel_rfl) (fun o' h => rn_move h (ev_out (by kernel_rfl) ha9)) (hK _ _ (show Phi13 gb o n nm AC lC cC Z Row 68 _ _ from (by kernel_rfl : (.func (.func 27) #[] #[] : Value) = (VL13 gb o n nm AC lC cC Z).getD 68 undef)) (Below.refl _ _))
    · exact do_val (Op.move (.tmp 8)) (.slice AC lC cC) ho (by kernel_rfl) (by kernel_rfl) (by kernel_rfl) (fun o' h => rn_move h (ev_out (by kernel_rfl) ha8)) (hK _ _ (show Phi13 gb o n nm AC lC cC Z Row 69 _ _ from (by kernel_rfl : (.slice AC lC cC : Value) = (VL13 gb o n nm AC lC cC Z).getD 69 undef)) (Below.refl _ _))
    · have f69 : V 69 = .slice AC lC cC := pre_at (j := 69) ho (by kernel_rfl) (by kernel_rfl) hpre
      exact do_val (Op.call { callee := .builtin .len, args := #[.tmp 114], argTypes := #[25] }) (.int .i64 (lC : Int)) ho (by kernel_rfl) (by kernel_rfl) (by kernel_rfl) (fun o' h => rn_len h (ev_in (j := 69) hsz (by kernel_rfl) (by kernel_rfl) f69)) (hK _ _ (show Phi13 gb o n nm AC lC cC Z Row 70 _ _ from (by kernel_rfl : (.int .i64 (lC : Int) : Value) = (VL13 gb o n nm AC lC cC Z).getD 70 undef)) (Below.refl _ _))
    · have f68 : V 68 = .func (.func 27) #[] #[] := pre_at (j := 68) ho (by kernel_rfl) (by kernel_rfl) hpre
      have f70 : V 70 = .int .i64 (lC : Int) := pre_at (j := 70) ho (by kernel_rfl) (by kernel_rfl) hpre
      refine do_call (Op.call { callee := .value (.tmp 113), args := #[.tmp 115], argTypes := #[3] }) 27 #[.int .i64 (lC : Int)] ho (by kernel_rfl) (by kernel_rfl) (by kernel_rfl) (fun o' h => rn_enter h rfl (ev_in (j := 68) hsz (by kernel_rfl) (by kernel_rfl) f68) (ev_in (j := 70) hsz (by kernel_rfl) (by kernel_rfl) f70)) ((HD4 X).mono ?_)
      rintro e w' ⟨rfl, h⟩
      exact ⟨_, rfl, hK _ _ (show Phi13 gb o n nm AC lC cC Z Row 71 _ _ from (by kernel_rfl : (.string (Z 4) : Value) = (VL13 gb o n nm AC lC cC Z).getD 71 undef)) h⟩
    · have f67 : V 67 = .string (Z 123) := pre_at (j := 67) ho (by kernel_rfl) (by kernel_rfl) hpre
      have f71 : V 71 = .string (Z 4) := pre_at (j := 71) ho (by kernel_rfl) (by kernel_rfl) hpre
      exact do_val (Op.binOp .add 9 (.tmp 112) (.tmp 116) 9) (.string (Z 124)) ho (by kernel_rfl) (by kernel_rfl) (by kernel_rfl) (fun o' h => rn_cat h (ev_in (j := 67) hsz (by kernel_rfl) (by kernel_rfl) f67) (ev_in (j := 71) hsz (by kernel_rfl) (by kernel_rfl) f71) (hk124 X)) (hK _ _ (show Phi13 gb o n nm AC lC cC Z Row 72 _ _ from (by kernel_rfl : (.string (Z 124) : Value) = (VL13 gb o n nm AC lC cC Z).getD 72 undef)) (Below.refl _ _))
    · have f72 : V 72 = .string (Z 124) := pre_at (j := 72) ho (by kernel_rfl) (by kernel_rfl) hpre
      exact do_val (Op.binOp .add 9 (.tmp 117) (.const (.string { data := #[32] })) 9) (.string (Z 125)) ho (by kernel_rfl) (by kernel_rfl) (by kernel_rfl) (fun o' h => rn_cat h (ev_in (j := 72) hsz (by kernel_rfl) (by kernel_rfl) f72) rfl (hk125 X)) (hK _ _ (show Phi13 gb o n nm AC lC cC Z Row 73 _ _ from (by kernel_rfl : (.string (Z 125) : Value) = (VL13 gb o n nm AC lC cC Z).getD 73 undef)) (Below.refl _ _))
    · exact do_val (Op.move (.tmp 11)) (.string (Z 5)) ho (by kernel_rfl) (by kernel_rfl) (by kernel_rfl) (fun o' h => rn_move h (ev_out (by kernel_rfl) ha11)) (hK _ _ (show Phi13 gb o n nm AC lC cC Z Row 74 _ _ from (by kernel_rfl : (.string (Z 5) : Value) = (VL13 gb o n nm AC lC cC Z).getD 74 undef)) (Below.refl _ _))
    · have f73 : V 73 = .string (Z 125) := pre_at (j := 73) ho (by kernel_rfl) (by kernel_rfl) hpre
      have f74 : V 74 = .string (Z 5) := pre_at (j := 74) ho (by kernel_rfl) (by kernel_rfl) hpre
      exact do_val (Op.binOp .add 9 (.tmp 118) (.tmp 119) 9) (.string (Z 126)) ho (by kernel_rfl) (by kernel_rfl) (by kernel_rfl) (fun o' h => rn_cat h (ev_in (j := 73) hsz (by kernel_rfl) (by kernel_rfl) f73) (ev_in (j := 74) hsz (by kernel_rfl) (by kernel_rfl) f74) (hk126 X)) (hK _ _ (show Phi13 gb o n nm AC lC cC Z Row 75 _ _ from (by kernel_rfl : (.string (Z 126) : Value) = (VL13 gb o n nm AC lC cC Z).getD 75 undef)) (Below.refl _ _))
    · exact do_val (Op.move (.tmp 9)) (.func (.func 27) #[] #[]) ho (by kernel_rfl) (by kernel_rfl) (by kernel_rfl) (fun o' h => rn_move h (ev_out (by kernel_rfl) ha9)) (hK _ _ (show Phi13 gb o n nm AC lC cC Z Row 76 _ _ from (by kernel_rfl : (.func (.func 27) #[] #[] : Value) = (VL13 gb o n nm AC lC cC Z).getD 76 undef)) (Below.refl _ _))
    · exact do_val (Op.fieldAddr 24 (.tmp 2) 0) (.pointer (some ⟨gb, 0, none⟩)) ho (by kernel_rfl) (by kernel_rfl) (by kernel_rfl) (fun o' h => rn_field0 h (ev_out (by kernel_rfl) ha2)) (hK _ _ (show Phi13 gb o n nm AC lC cC Z Row 77 _ _ from (by kernel_rfl : (.pointer (some ⟨gb, 0, none⟩) : Value) = (VL13 gb o n nm AC lC cC Z).getD 77 undef)) (Below.refl _ _))
    · have f77 : V 77 = .pointer (some ⟨gb, 0, none⟩) := pre_at (j := 77) ho (by kernel_rfl) (by kernel_rfl) hpre
      exact do_val (Op.load 3 (.tmp 122)) (.int .i64 o) ho (by kernel_rfl) (by kernel_rfl) (by kernel_rfl) (fun o' h => rn_load h (ev_in (j := 77) hsz (by kernel_rfl) (by kernel_rfl) f77) (hcell X hR).1) (hK _ _ (show Phi13 gb o n nm AC lC cC Z Row 78 _ _ from (by kernel_rfl : (.int .i64 o : Value) = (VL13 gb o n nm AC lC cC Z).getD 78 undef)) (Below.refl _ _))
    · have f76 : V 76 = .func (.func 27) #[] #[] := pre_at (j := 76) ho (by kernel_rfl) (by kernel_rfl) hpre
      have f78 : V 78 = .int .i64 o := pre_at (j := 78) ho (by kernel_rfl) (by kernel_rfl) hpre
      refine do_call (Op.call { callee := .value (.tmp 121), args := #[.tmp 123], argTypes := #[3] }) 27 #[.int .i64 o] ho (by kernel_rfl) (by kernel_rfl) (by kernel_rfl) (fun o' h => rn_enter h rfl (ev_in (j := 76) hsz (by kernel_rfl) (by kernel_rfl) f76) (ev_in (j := 78) hsz (by kernel_rfl) (by kernel_rfl) f78)) ((HD1 X).mono ?_)
      rintro e w' ⟨rfl, h⟩
      exact ⟨_, rfl, hK _ _ (show Phi13 gb o n nm AC lC cC Z Row 79 _ _ from (by kernel_rfl : (.string (Z 1) : Value) = (VL13 gb o n nm AC lC cC Z).getD 79 undef)) h⟩
    · have f79 : V 79 = .string (Z 1) := pre_at (j := 79) ho (by kernel_rfl) (by kernel_rfl) hpre
      exact do_val (Op.binOp .add 9 (.const (.string { data := #[66, 85, 78, 68, 76, 69, 32] })) (.tmp 124) 9) (.string (Z 100)) ho (by kernel_rfl) (by kernel_rfl) (by kernel_rfl) (fun o' h => rn_cat h rfl (ev_in (j := 79) hsz (by kernel_rfl) (by kernel_rfl) f79) (hk100 X)) (hK _ _ (show Phi13 gb o n nm AC lC cC Z Row 80 _ _ from (by kernel_rfl : (.string (Z 100) : Value) = (VL13 gb o n nm AC lC cC Z).getD 80 undef)) (Below.refl _ _))
    · have f80 : V 80 = .string (Z 100) := pre_at (j := 80) ho (by kernel_rfl) (by kernel_rfl) hpre
      exact do_val (Op.binOp .add 9 (.tmp 125) (.const (.string { data := #[32] })) 9) (.string (Z 127)) ho (by kernel_rfl) (by kernel_rfl) (by kernel_rfl) (fun o' h => rn_cat h (ev_in (j := 80) hsz (by kernel_rfl) (by kernel_rfl) f80) rfl (hk127 X)) (hK _ _ (show Phi13 gb o n nm AC lC cC Z Row 81 _ _ from (by kernel_rfl : (.string (Z 127) : Value) = (VL13 gb o n nm AC lC cC Z).getD 81 undef)) (Below.refl _ _))
    · exact do_val (Op.move (.tmp 9)) (.func (.func 27) #[] #[]) ho (by kernel_rfl) (by kernel_rfl) (by kernel_rfl) (fun o' h => rn_move h (ev_out (by kernel_rfl) ha9)) (hK _ _ (show Phi13 gb o n nm AC lC cC Z Row 82 _ _ from (by kernel_rfl : (.func (.func 27) #[] #[] : Value) = (VL13 gb o n nm AC lC cC Z).getD 82 undef)) (Below.refl _ _))
    · exact do_val (Op.fieldAddr 24 (.tmp 2) 1) (.pointer (some ⟨gb, 1, none⟩)) ho (by kernel_rfl) (by kernel_rfl) (by kernel_rfl) (fun o' h => rn_field1 h (ev_out (by kernel_rfl) ha2)) (hK _ _ (show Phi13 gb o n nm AC lC cC Z Row 83 _ _ from (by kernel_rfl : (.pointer (some ⟨gb, 1, none⟩) : Value) = (VL13 gb o n nm AC lC cC Z).getD 83 undef)) (Below.refl _ _))
    · have f83 : V 83 = .pointer (some ⟨gb, 1, none⟩) := pre_at (j := 83) ho (by kernel_rfl) (by kernel_rfl) hpre
      exact do_val (Op.load 3 (.tmp 128)) (.int .i64 n) ho (by kernel_rfl) (by kernel_rfl) (by kernel_rfl) (fun o' h => rn_load h (ev_in (j := 83) hsz (by kernel_rfl) (by kernel_rfl) f83) (hcell X hR).2) (hK _ _ (show Phi13 gb o n nm AC lC cC Z Row 84 _ _ from (by kernel_rfl : (.int .i64 n : Value) = (VL13 gb o n nm AC lC cC Z).getD 84 undef)) (Below.refl _ _))
    · have f82 : V 82 = .func (.func 27) #[] #[] := pre_at (j := 82) ho (by kernel_rfl) (by kernel_rfl) hpre
      have f84 : V 84 = .int .i64 n := pre_at (j := 84) ho (by kernel_rfl) (by kernel_rfl) hpre
      refine do_call (Op.call { callee := .value (.tmp 127), args := #[.tmp 129], argTypes := #[3] }) 27 #[.int .i64 n] ho (by kernel_rfl) (by kernel_rfl) (by kernel_rfl) (fun o' h => rn_enter h rfl (ev_in (j := 82) hsz (by kernel_rfl) (by kernel_rfl) f82) (ev_in (j := 84) hsz (by kernel_rfl) (by kernel_rfl) f84)) ((HD2 X).mono ?_)
      rintro e w' ⟨rfl, h⟩
      exact ⟨_, rfl, hK _ _ (show Phi13 gb o n nm AC lC cC Z Row 85 _ _ from (by kernel_rfl : (.string (Z 2) : Value) = (VL13 gb o n nm AC lC cC Z).getD 85 undef)) h⟩
    · have f81 : V 81 = .string (Z 127) := pre_at (j := 81) ho (by kernel_rfl) (by kernel_rfl) hpre
      have f85 : V 85 = .string (Z 2) := pre_at (j := 85) ho (by kernel_rfl) (by kernel_rfl) hpre
      exact do_val (Op.binOp .add 9 (.tmp 126) (.tmp 130) 9) (.string (Z 128)) ho (by kernel_rfl) (by kernel_rfl) (by kernel_rfl) (fun o' h => rn_cat h (ev_in (j := 81) hsz (by kernel_rfl) (by kernel_rfl) f81) (ev_in (j := 85) hsz (by kernel_rfl) (by kernel_rfl) f85) (hk128 X)) (hK _ _ (show Phi13 gb o n nm AC lC cC Z Row 86 _ _ from (by kernel_rfl : (.string (Z 128) : Value) = (VL13 gb o n nm AC lC cC Z).getD 86 undef)) (Below.refl _ _))
    · have f86 : V 86 = .string (Z 128) := pre_at (j := 86) ho (by kernel_rfl) (by kernel_rfl) hpre
      exact do_val (Op.binOp .add 9 (.tmp 131) (.const (.string { data := #[32] })) 9) (.string (Z 129)) ho (by kernel_rfl) (by kernel_rfl) (by kernel_rfl) (fun o' h => rn_cat h (ev_in (j := 86) hsz (by kernel_rfl) (by kernel_rfl) f86) rfl (hk129 X)) (hK _ _ (show Phi13 gb o n nm AC lC cC Z Row 87 _ _ from (by kernel_rfl : (.string (Z 129) : Value) = (VL13 gb o n nm AC lC cC Z).getD 87 undef)) (Below.refl _ _))
    · exact do_val (Op.move (.tmp 9)) (.func (.func 27) #[] #[]) ho (by kernel_rfl) (by kernel_rfl) (by kernel_rfl) (fun o' h => rn_move h (ev_out (by kernel_rfl) ha9)) (hK _ _ (show Phi13 gb o n nm AC lC cC Z Row 88 _ _ from (by kernel_rfl : (.func (.func 27) #[] #[] : Value) = (VL13 gb o n nm AC lC cC Z).getD 88 undef)) (Below.refl _ _))
    · exact do_val (Op.move (.tmp 10)) (.int .i64 nm) ho (by kernel_rfl) (by kernel_rfl) (by kernel_rfl) (fun o' h => rn_move h (ev_out (by kernel_rfl) ha10)) (hK _ _ (show Phi13 gb o n nm AC lC cC Z Row 89 _ _ from (by kernel_rfl : (.int .i64 nm : Value) = (VL13 gb o n nm AC lC cC Z).getD 89 undef)) (Below.refl _ _))
    · have f89 : V 89 = .int .i64 nm := pre_at (j := 89) ho (by kernel_rfl) (by kernel_rfl) hpre
      exact do_val (Op.binOp .add 3 (.tmp 134) (.const (.int .i64 1)) 3) (.int .i64 (nm + 1)) ho (by kernel_rfl) (by kernel_rfl) (by kernel_rfl) (fun o' h => rn_addi h (ev_in (j := 89) hsz (by kernel_rfl) (by kernel_rfl) f89) rfl hw3) (hK _ _ (show Phi13 gb o n nm AC lC cC Z Row 90 _ _ from (by kernel_rfl : (.int .i64 (nm + 1) : Value) = (VL13 gb o n nm AC lC cC Z).getD 90 undef)) (Below.refl _ _))
    · have f88 : V 88 = .func (.func 27) #[] #[] := pre_at (j := 88) ho (by kernel_rfl) (by kernel_rfl) hpre
      have f90 : V 90 = .int .i64 (nm + 1) := pre_at (j := 90) ho (by kernel_rfl) (by kernel_rfl) hpre
      refine do_call (Op.call { callee := .value (.tmp 133), args := #[.tmp 135], argTypes := #[3] }) 27 #[.int .i64 (nm + 1)] ho (by kernel_rfl) (by kernel_rfl) (by kernel_rfl) (fun o' h => rn_enter h rfl (ev_in (j := 88) hsz (by kernel_rfl) (by kernel_rfl) f88) (ev_in (j := 90) hsz (by kernel_rfl) (by kernel_rfl) f90)) ((HG3 X).mono ?_)
      rintro e w' ⟨rfl, h⟩
      exact ⟨_, rfl, hK _ _ (show Phi13 gb o n nm AC lC cC Z Row 91 _ _ from (by kernel_rfl : (.string (Z 13) : Value) = (VL13 gb o n nm AC lC cC Z).getD 91 undef)) h⟩
    · have f87 : V 87 = .string (Z 129) := pre_at (j := 87) ho (by kernel_rfl) (by kernel_rfl) hpre
      have f91 : V 91 = .string (Z 13) := pre_at (j := 91) ho (by kernel_rfl) (by kernel_rfl) hpre
      exact do_val (Op.binOp .add 9 (.tmp 132) (.tmp 136) 9) (.string (Z 130)) ho (by kernel_rfl) (by kernel_rfl) (by kernel_rfl) (fun o' h => rn_cat h (ev_in (j := 87) hsz (by kernel_rfl) (by kernel_rfl) f87) (ev_in (j := 91) hsz (by kernel_rfl) (by kernel_rfl) f91) (hk130 X)) (hK _ _ (show Phi13 gb o n nm AC lC cC Z Row 92 _ _ from (by kernel_rfl : (.string (Z 130) : Value) = (VL13 gb o n nm AC lC cC Z).getD 92 undef)) (Below.refl _ _))
    · have f92 : V 92 = .string (Z 130) := pre_at (j := 92) ho (by kernel_rfl) (by kernel_rfl) hpre
      exact do_val (Op.binOp .add 9 (.tmp 137) (.const (.string { data := #[32] })) 9) (.string (Z 131)) ho (by kernel_rfl) (by kernel_rfl) (by kernel_rfl) (fun o' h => rn_cat h (ev_in (j := 92) hsz (by kernel_rfl) (by kernel_rfl) f92) rfl (hk131 X)) (hK _ _ (show Phi13 gb o n nm AC lC cC Z Row 93 _ _ from (by kernel_rfl : (.string (Z 131) : Value) = (VL13 gb o n nm AC lC cC Z).getD 93 undef)) (Below.refl _ _))
    · exact do_val (Op.move (.tmp 9)) (.func (.func 27) #[] #[]) ho (by kernel_rfl) (by kernel_rfl) (by kernel_rfl) (fun o' h => rn_move h (ev_out (by kernel_rfl) ha9)) (hK _ _ (show Phi13 gb o n nm AC lC cC Z Row 94 _ _ from (by kernel_rfl : (.func (.func 27) #[] #[] : Value) = (VL13 gb o n nm AC lC cC Z).getD 94 undef)) (Below.refl _ _))
    · exact do_val (Op.move (.tmp 8)) (.slice AC lC cC) ho (by kernel_rfl) (by kernel_rfl) (by kernel_rfl) (fun o' h => rn_move h (ev_out (by kernel_rfl) ha8)) (hK _ _ (show Phi13 gb o n nm AC lC cC Z Row 95 _ _ from (by kernel_rfl : (.slice AC lC cC : Value) = (VL13 gb o n nm AC lC cC Z).getD 95 undef)) (Below.refl _ _))
    · have f95 : V 95 = .slice AC lC cC := pre_at (j := 95) ho (by kernel_rfl) (by kernel_rfl) hpre
      exact do_val (Op.call { callee := .builtin .len, args := #[.tmp 140], argTypes := #[25] }) (.int .i64 (lC : Int)) ho (by kernel_rfl) (by kernel_rfl) (by kernel_rfl) (fun o' h => rn_len h (ev_in (j := 95) hsz (by kernel_rfl) (by kernel_rfl) f95)) (hK _ _ (show Phi13 gb o n nm AC lC cC Z Row 96 _ _ from (by kernel_rfl : (.int .i64 (lC : Int) : Value) = (VL13 gb o n nm AC lC cC Z).getD 96 undef)) (Below.refl _ _))
    · have f94 : V 94 = .func (.func 27) #[] #[] := pre_at (j := 94) ho (by kernel_rfl) (by kernel_rfl) hpre
      have f96 : V 96 = .int .i64 (lC : Int) := pre_at (j := 96) ho (by kernel_rfl) (by kernel_rfl) hpre
      refine do_call (Op.call { callee := .value (.tmp 139), args := #[.tmp 141], argTypes := #[3] }) 27 #[.int .i64 (lC : Int)] ho (by kernel_rfl) (by kernel_rfl) (by kernel_rfl) (fun o' h => rn_enter h rfl (ev_in (j := 94) hsz (by kernel_rfl) (by kernel_rfl) f94) (ev_in (j := 96) hsz (by kernel_rfl) (by kernel_rfl) f96)) ((HD4 X).mono ?_)
      rintro e w' ⟨rfl, h⟩
      exact ⟨_, rfl, hK _ _ (show Phi13 gb o n nm AC lC cC Z Row 97 _ _ from (by kernel_rfl : (.string (Z 4) : Value) = (VL13 gb o n nm AC lC cC Z).getD 97 undef)) h⟩
    · have f93 : V 93 = .string (Z 131) := pre_at (j := 93) ho (by kernel_rfl) (by kernel_rfl) hpre
      have f97 : V 97 = .string (Z 4) := pre_at (j := 97) ho (by kernel_rfl) (by kernel_rfl) hpre
      exact do_val (Op.binOp .add 9 (.tmp 138) (.tmp 142) 9) (.string (Z 132)) ho (by kernel_rfl) (by kernel_rfl) (by kernel_rfl) (fun o' h => rn_cat h (ev_in (j := 93) hsz (by kernel_rfl) (by kernel_rfl) f93) (ev_in (j := 97) hsz (by kernel_rfl) (by kernel_rfl) f97) (hk132 X)) (hK _ _ (show Phi13 gb o n nm AC lC cC Z Row 98 _ _ from (by kernel_rfl : (.string (Z 132) : Value) = (VL13 gb o n nm AC lC cC Z).getD 98 undef)) (Below.refl _ _))
    · have f98 : V 98 = .string (Z 132) := pre_at (j := 98) ho (by kernel_rfl) (by kernel_rfl) hpre
      exact do_val (Op.binOp .add 9 (.tmp 143) (.const (.string { data := #[32] })) 9) (.string (Z 133)) ho (by kernel_rfl) (by kernel_rfl) (by kernel_rfl) (fun o' h => rn_cat h (ev_in (j := 98) hsz (by kernel_rfl) (by kernel_rfl) f98) rfl (hk133 X)) (hK _ _ (show Phi13 gb o n nm AC lC cC Z Row 99 _ _ from (by kernel_rfl : (.string (Z 133) : Value) = (VL13 gb o n nm AC lC cC Z).getD 99 undef)) (Below.refl _ _))
    · exact do_val (Op.move (.tmp 11)) (.string (Z 5)) ho (by kernel_rfl) (by kernel_rfl) (by kernel_rfl) (fun o' h => rn_move h (ev_out (by kernel_rfl) ha11)) (hK _ _ (show Phi13 gb o n nm AC lC cC Z Row 100 _ _ from (by kernel_rfl : (.string (Z 5) : Value) = (VL13 gb o n nm AC lC cC Z).getD 100 undef)) (Below.refl _ _))
    · have f99 : V 99 = .string (Z 133) := pre_at (j := 99) ho (by kernel_rfl) (by kernel_rfl) hpre
      have f100 : V 100 = .string (Z 5) := pre_at (j := 100) ho (by kernel_rfl) (by kernel_rfl) hpre
      exact do_val (Op.binOp .add 9 (.tmp 144) (.tmp 145) 9) (.string (Z 134)) ho (by kernel_rfl) (by kernel_rfl) (by kernel_rfl) (fun o' h => rn_cat h (ev_in (j := 99) hsz (by kernel_rfl) (by kernel_rfl) f99) (ev_in (j := 100) hsz (by kernel_rfl) (by kernel_rfl) f100) (hk134 X)) (hK _ _ (show Phi13 gb o n nm AC lC cC Z Row 101 _ _ from (by kernel_rfl : (.string (Z 134) : Value) = (VL13 gb o n nm AC lC cC Z).getD 101 undef)) (Below.refl _ _))
    · exact do_val (Op.move (.tmp 9)) (.func (.func 27) #[] #[]) ho (by kernel_rfl) (by kernel_rfl) (by kernel_rfl) (fun o' h => rn_move h (ev_out (by kernel_rfl) ha9)) (hK _ _ (show Phi13 gb o n nm AC lC cC Z Row 102 _ _ from (by kernel_rfl : (.func (.func 27) #[] #[] : Value) = (VL13 gb o n nm AC lC cC Z).getD 102 undef)) (Below.refl _ _))
    · exact do_val (Op.fieldAddr 24 (.tmp 2) 0) (.pointer (some ⟨gb, 0, none⟩)) ho (by kernel_rfl) (by kernel_rfl) (by kernel_rfl) (fun o' h => rn_field0 h (ev_out (by kernel_rfl) ha2)) (hK _ _ (show Phi13 gb o n nm AC lC cC Z Row 103 _ _ from (by kernel_rfl : (.pointer (some ⟨gb, 0, none⟩) : Value) = (VL13 gb o n nm AC lC cC Z).getD 103 undef)) (Below.refl _ _))
    · have f103 : V 103 = .pointer (some ⟨gb, 0, none⟩) := pre_at (j := 103) ho (by kernel_rfl) (by kernel_rfl) hpre
      exact do_val (Op.load 3 (.tmp 148)) (.int .i64 o) ho (by kernel_rfl) (by kernel_rfl) (by kernel_rfl) (fun o' h => rn_load h (ev_in (j := 103) hsz (by kernel_rfl) (by kernel_rfl) f103) (hcell X hR).1) (hK _ _ (show Phi13 gb o n nm AC lC cC Z Row 104 _ _ from (by kernel_rfl : (.int .i64 o : Value) = (VL13 gb o n nm AC lC cC Z).getD 104 undef)) (Below.refl _ _))
    · have f102 : V 102 = .func (.func 27) #[] #[] := pre_at (j := 102) ho (by kernel_rfl) (by kernel_rfl) hpre
      have f104 : V 104 = .int .i64 o := pre_at (j := 104) ho (by kernel_rfl) (by kernel_rfl) hpre
      refine do_call (Op.call { callee := .value (.tmp 147), args := #[.tmp 149], argTypes := #[3] }) 27 #[.int .i64 o] ho (by kernel_rfl) (by kernel_rfl) (by kernel_rfl) (fun o' h => rn_enter h rfl (ev_in (j := 102) hsz (by kernel_rfl) (by kernel_rfl) f102) (ev_in (j := 104) hsz (by kernel_rfl) (by kernel_rfl) f104)) ((HD1 X).mono ?_)
      rintro e w' ⟨rfl, h⟩
      exact ⟨_, rfl, hK _ _ (show Phi13 gb o n nm AC lC cC Z Row 105 _ _ from (by kernel_rfl : (.string (Z 1) : Value) = (VL13 gb o n nm AC lC cC Z).getD 105 undef)) h⟩
    · have f105 : V 105 = .string (Z 1) := pre_at (j := 105) ho (by kernel_rfl) (by kernel_rfl) hpre
      exact do_val (Op.binOp .add 9 (.const (.string { data := #[66, 85, 78, 68, 76, 69, 32] })) (.tmp 150) 9) (.string (Z 100)) ho (by kernel_rfl) (by kernel_rfl) (by kernel_rfl) (fun o' h => rn_cat h rfl (ev_in (j := 105) hsz (by kernel_rfl) (by kernel_rfl) f105) (hk100 X)) (hK _ _ (show Phi13 gb o n nm AC lC cC Z Row 106 _ _ from (by kernel_rfl : (.string (Z 100) : Value) = (VL13 gb o n nm AC lC cC Z).getD 106 undef)) (Below.refl _ _))
    · have f106 : V 106 = .string (Z 100) := pre_at (j := 106) ho (by kernel_rfl) (by kernel_rfl) hpre
      exact do_val (Op.binOp .add 9 (.tmp 151) (.const (.string { data := #[32] })) 9) (.string (Z 127)) ho (by kernel_rfl) (by kernel_rfl) (by kernel_rfl) (fun o' h => rn_cat h (ev_in (j := 106) hsz (by kernel_rfl) (by kernel_rfl) f106) rfl (hk127 X)) (hK _ _ (show Phi13 gb o n nm AC lC cC Z Row 107 _ _ from (by kernel_rfl : (.string (Z 127) : Value) = (VL13 gb o n nm AC lC cC Z).getD 107 undef)) (Below.refl _ _))
    · exact do_val (Op.move (.tmp 9)) (.func (.func 27) #[] #[]) ho (by kernel_rfl) (by kernel_rfl) (by kernel_rfl) (fun o' h => rn_move h (ev_out (by kernel_rfl) ha9)) (hK _ _ (show Phi13 gb o n nm AC lC cC Z Row 108 _ _ from (by kernel_rfl : (.func (.func 27) #[] #[] : Value) = (VL13 gb o n nm AC lC cC Z).getD 108 undef)) (Below.refl _ _))
    · exact do_val (Op.fieldAddr 24 (.tmp 2) 1) (.pointer (some ⟨gb, 1, none⟩)) ho (by kernel_rfl) (by kernel_rfl) (by kernel_rfl) (fun o' h => rn_field1 h (ev_out (by kernel_rfl) ha2)) (hK _ _ (show Phi13 gb o n nm AC lC cC Z Row 109 _ _ from (by kernel_rfl : (.pointer (some ⟨gb, 1, none⟩) : Value) = (VL13 gb o n nm AC lC cC Z).getD 109 undef)) (Below.refl _ _))
    · have f109 : V 109 = .pointer (some ⟨gb, 1, none⟩) := pre_at (j := 109) ho (by kernel_rfl) (by kernel_rfl) hpre
      exact do_val (Op.load 3 (.tmp 154)) (.int .i64 n) ho (by kernel_rfl) (by kernel_rfl) (by kernel_rfl) (fun o' h => rn_load h (ev_in (j := 109) hsz (by kernel_rfl) (by kernel_rfl) f109) (hcell X hR).2) (hK _ _ (show Phi13 gb o n nm AC lC cC Z Row 110 _ _ from (by kernel_rfl : (.int .i64 n : Value) = (VL13 gb o n nm AC lC cC Z).getD 110 undef)) (Below.refl _ _))
    · have f108 : V 108 = .func (.func 27) #[] #[] := pre_at (j := 108) ho (by kernel_rfl) (by kernel_rfl) hpre
      have f110 : V 110 = .int .i64 n := pre_at (j := 110) ho (by kernel_rfl) (by kernel_rfl) hpre
      refine do_call (Op.call { callee := .value (.tmp 153), args := #[.tmp 155], argTypes := #[3] }) 27 #[.int .i64 n] ho (by kernel_rfl) (by kernel_rfl) (by kernel_rfl) (fun o' h => rn_enter h rfl (ev_in (j := 108) hsz (by kernel_rfl) (by kernel_rfl) f108) (ev_in (j := 110) hsz (by kernel_rfl) (by kernel_rfl) f110)) ((HD2 X).mono ?_)
      rintro e w' ⟨rfl, h⟩
      exact ⟨_, rfl, hK _ _ (show Phi13 gb o n nm AC lC cC Z Row 111 _ _ from (by kernel_rfl : (.string (Z 2) : Value) = (VL13 gb o n nm AC lC cC Z).getD 111 undef)) h⟩
    · have f107 : V 107 = .string (Z 127) := pre_at (j := 107) ho (by kernel_rfl) (by kernel_rfl) hpre
      have f111 : V 111 = .string (Z 2) := pre_at (j := 111) ho (by kernel_rfl) (by kernel_rfl) hpre
      exact do_val (Op.binOp .add 9 (.tmp 152) (.tmp 156) 9) (.string (Z 128)) ho (by kernel_rfl) (by kernel_rfl) (by kernel_rfl) (fun o' h => rn_cat h (ev_in (j := 107) hsz (by kernel_rfl) (by kernel_rfl) f107) (ev_in (j := 111) hsz (by kernel_rfl) (by kernel_rfl) f111) (hk128 X)) (hK _ _ (show Phi13 gb o n nm AC lC cC Z Row 112 _ _ from (by kernel_rfl : (.string (Z 128) : Value) = (VL13 gb o n nm AC lC cC Z).getD 112 undef)) (Below.refl _ _))
    · have f112 : V 112 = .string (Z 128) := pre_at (j := 112) ho (by kernel_rfl) (by kernel_rfl) hpre
      exact do_val (Op.binOp .add 9 (.tmp 157) (.const (.string { data := #[32] })) 9) (.string (Z 129)) ho (by kernel_rfl) (by kernel_rfl) (by kernel_rfl) (fun o' h => rn_cat h (ev_in (j := 112) hsz (by kernel_rfl) (by kernel_rfl) f112) rfl (hk129 X)) (hK _ _ (show Phi13 gb o n nm AC lC cC Z Row 113 _ _ from (by kernel_rfl : (.string (Z 129) : Value) = (VL13 gb o n nm AC lC cC Z).getD 113 undef)) (Below.refl _ _))
    · exact do_val (Op.move (.tmp 9)) (.func (.func 27) #[] #[]) ho (by kernel_rfl) (by kernel_rfl) (by kernel_rfl) (fun o' h => rn_move h (ev_out (by kernel_rfl) ha9)) (hK _ _ (show Phi13 gb o n nm AC lC cC Z Row 114 _ _ from (by kernel_rfl : (.func (.func 27) #[] #[] : Value) = (VL13 gb o n nm AC lC cC Z).getD 114 undef)) (Below.refl _ _))
    · exact do_val (Op.move (.tmp 10)) (.int .i64 nm) ho (by kernel_rfl) (by kernel_rfl) (by kernel_rfl) (fun o' h => rn_move h (ev_out (by kernel_rfl) ha10)) (hK _ _ (show Phi13 gb o n nm AC lC cC Z Row 115 _ _ from (by kernel_rfl : (.int .i64 nm : Value) = (VL13 gb o n nm AC lC cC Z).getD 115 undef)) (Below.refl _ _))
    · have f114 : V 114 = .func (.func 27) #[] #[] := pre_at (j := 114) ho (by kernel_rfl) (by kernel_rfl) hpre
      have f115 : V 115 = .int .i64 nm := pre_at (j := 115) ho (by kernel_rfl) (by kernel_rfl) hpre
      refine do_call (Op.call { callee := .value (.tmp 159), args := #[.tmp 160], argTypes := #[3] }) 27 #[.int .i64 nm] ho (by kernel_rfl) (by kernel_rfl) (by kernel_rfl) (fun o' h => rn_enter h rfl (ev_in (j := 114) hsz (by kernel_rfl) (by kernel_rfl) f114) (ev_in (j := 115) hsz (by kernel_rfl) (by kernel_rfl) f115)) ((HD3 X).mono ?_)
      rintro e w' ⟨rfl, h⟩
      exact ⟨_, rfl, hK _ _ (show Phi13 gb o n nm AC lC cC Z Row 116 _ _ from (by kernel_rfl : (.string (Z 3) : Value) = (VL13 gb o n nm AC lC cC Z).getD 116 undef)) h⟩
    · have f113 : V 113 = .string (Z 129) := pre_at (j := 113) ho (by kernel_rfl) (by kernel_rfl) hpre
      have f116 : V 116 = .string (Z 3) := pre_at (j := 116) ho (by kernel_rfl) (by kernel_rfl) hpre
      exact do_val (Op.binOp .add 9 (.tmp 158) (.tmp 161) 9) (.string (Z 135)) ho (by kernel_rfl) (by kernel_rfl) (by kernel_rfl) (fun o' h => rn_cat h (ev_in (j := 113) hsz (by kernel_rfl) (by kernel_rfl) f113) (ev_in (j := 116) hsz (by kernel_rfl) (by kernel_rfl) f116) (hk135 X)) (hK _ _ (show Phi13 gb o n nm AC lC cC Z Row 117 _ _ from (by kernel_rfl : (.string (Z 135) : Value) = (VL13 gb o n nm AC lC cC Z).getD 117 undef)) (Below.refl _ _))
    · have f117 : V 117 = .string (Z 135) := pre_at (j := 117) ho (by kernel_rfl) (by kernel_rfl) hpre
      exact do_val (Op.binOp .add 9 (.tmp 162) (.const (.string { data := #[32] })) 9) (.string (Z 136)) ho (by kernel_rfl) (by kernel_rfl) (by kernel_rfl) (fun o' h => rn_cat h (ev_in (j := 117) hsz (by kernel_rfl) (by kernel_rfl) f117) rfl (hk136 X)) (hK _ _ (show Phi13 gb o n nm AC lC cC Z Row 118 _ _ from (by kernel_rfl : (.string (Z 136) : Value) = (VL13 gb o n nm AC lC cC Z).getD 118 undef)) (Below.refl _ _))
    · exact do_val (Op.move (.tmp 9)) (.func (.func 27) #[] #[]) ho (by kernel_rfl) (by kernel_rfl) (by kernel_rfl) (fun o' h => rn_move h (ev_out (by kernel_rfl) ha9)) (hK _ _ (show Phi13 gb o n nm AC lC cC Z Row 119 _ _ from (by kernel_rfl : (.func (.func 27) #[] #[] : Value) = (VL13 gb o n nm AC lC cC Z).getD 119 undef)) (Below.refl _ _))
    · exact do_val (Op.move (.tmp 8)) (.slice AC lC cC) ho (by kernel_rfl) (by kernel_rfl) (by kernel_rfl) (fun o' h => rn_move h (ev_out (by kernel_rfl) ha8)) (hK _ _ (show Phi13 gb o n nm AC lC cC Z Row 120 _ _ from (by kernel_rfl : (.slice AC lC cC : Value) = (VL13 gb o n nm AC lC cC Z).getD 120 undef)) (Below.refl _ _))
    · have f120 : V 120 = .slice AC lC cC := pre_at (j := 120) ho (by kernel_rfl) (by kernel_rfl) hpre
      exact do_val (Op.call { callee := .builtin .len, args := #[.tmp 165], argTypes := #[25] }) (.int .i64 (lC : Int)) ho (by kernel_rfl) (by kernel_rfl) (by kernel_rfl) (fun o' h => rn_len h (ev_in (j := 120) hsz (by kernel_rfl) (by kernel_rfl) f120)) (hK _ _ (show Phi13 gb o n nm AC lC cC Z Row 121 _ _ from (by kernel_rfl : (.int .i64 (lC : Int) : Value) = (VL13 gb o n nm AC lC cC Z).getD 121 undef)) (Below.refl _ _))
    · have f121 : V 121 = .int .i64 (lC : Int) := pre_at (j := 121) ho (by kernel_rfl) (by kernel_rfl) hpre
      exact do_val (Op.binOp .add 3 (.tmp 166) (.const (.int .i64 1)) 3) (.int .i64 ((lC : Int) + 1)) ho (by kernel_rfl) (by kernel_rfl) (by kernel_rfl) (fun o' h => rn_addi h (ev_in (j := 121) hsz (by kernel_rfl) (by kernel_rfl) f121) rfl hw4) (hK _ _ (show Phi13 gb o n nm AC lC cC Z Row 122 _ _ from (by kernel_rfl : (.int .i64 ((lC : Int) + 1) : Value) = (VL13 gb o n nm AC lC cC Z).getD 122 undef)) (Below.refl _ _))
    · have f119 : V 119 = .func (.func 27) #[] #[] := pre_at (j := 119) ho (by kernel_rfl) (by kernel_rfl) hpre
      have f122 : V 122 = .int .i64 ((lC : Int) + 1) := pre_at (j := 122) ho (by kernel_rfl) (by kernel_rfl) hpre
      refine do_call (Op.call { callee := .value (.tmp 164), args := #[.tmp 167], argTypes := #[3] }) 27 #[.int .i64 ((lC : Int) + 1)] ho (by kernel_rfl) (by kernel_rfl) (by kernel_rfl) (fun o' h => rn_enter h rfl (ev_in (j := 119) hsz (by kernel_rfl) (by kernel_rfl) f119) (ev_in (j := 122) hsz (by kernel_rfl) (by kernel_rfl) f122)) ((HG4 X).mono ?_)
      rintro e w' ⟨rfl, h⟩
      exact ⟨_, rfl, hK _ _ (show Phi13 gb o n nm AC lC cC Z Row 123 _ _ from (by kernel_rfl : (.string (Z 14) : Value) = (VL13 gb o n nm AC lC cC Z).getD 123 undef)) h⟩
    · have f118 : V 118 = .string (Z 136) := pre_at (j := 118) ho (by kernel_rfl) (by kernel_rfl) hpre
      have f123 : V 123 = .string (Z 14) := pre_at (j := 123) ho (by kernel_rfl) (by kernel_rfl) hpre
      exact do_val (Op.binOp .add 9 (.tmp 163) (.tmp 168) 9) (.string (Z 137)) ho (by kernel_rfl) (by kernel_rfl) (by kernel_rfl) (fun o' h => rn_cat h (ev_in (j := 118) hsz (by kernel_rfl) (by kernel_rfl) f118) (ev_in (j := 123) hsz (by kernel_rfl) (by kernel_rfl) f123) (hk137 X)) (hK _ _ (show Phi13 gb o n nm AC lC cC Z Row 124 _ _ from (by kernel_rfl : (.string (Z 137) : Value) = (VL13 gb o n nm AC lC cC Z).getD 124 undef)) (Below.refl _ _))
    · have f124 : V 124 = .string (Z 137) := pre_at (j := 124) ho (by kernel_rfl) (by kernel_rfl) hpre
      exact do_val (Op.binOp .add 9 (.tmp 169) (.const (.string { data := #[32] })) 9) (.string (Z 138)) ho (by kernel_rfl) (by kernel_rfl) (by kernel_rfl) (fun o' h => rn_cat h (ev_in (j := 124) hsz (by kernel_rfl) (by kernel_rfl) f124) rfl (hk138 X)) (hK _ _ (show Phi13 gb o n nm AC lC cC Z Row 125 _ _ from (by kernel_rfl : (.string (Z 138) : Value) = (VL13 gb o n nm AC lC cC Z).getD 125 undef)) (Below.refl _ _))
    · exact do_val (Op.move (.tmp 11)) (.string (Z 5)) ho (by kernel_rfl) (by kernel_rfl) (by kernel_rfl) (fun o' h => rn_move h (ev_out (by kernel_rfl) ha11)) (hK _ _ (show Phi13 gb o n nm AC lC cC Z Row 126 _ _ from (by kernel_rfl : (.string (Z 5) : Value) = (VL13 gb o n nm AC lC cC Z).getD 126 undef)) (Below.refl _ _))
    · have f125 : V 125 = .string (Z 138) := pre_at (j := 125) ho (by kernel_rfl) (by kernel_rfl) hpre
      have f126 : V 126 = .string (Z 5) := pre_at (j := 126) ho (by kernel_rfl) (by kernel_rfl) hpre
      exact do_val (Op.binOp .add 9 (.tmp 170) (.tmp 171) 9) (.string (Z 139)) ho (by kernel_rfl) (by kernel_rfl) (by kernel_rfl) (fun o' h => rn_cat h (ev_in (j := 125) hsz (by kernel_rfl) (by kernel_rfl) f125) (ev_in (j := 126) hsz (by kernel_rfl) (by kernel_rfl) f126) (hk139 X)) (hK _ _ (show Phi13 gb o n nm AC lC cC Z Row 127 _ _ from (by kernel_rfl : (.string (Z 139) : Value) = (VL13 gb o n nm AC lC cC Z).getD 127 undef)) (Below.refl _ _))
    · exact do_val (Op.move (.tmp 9)) (.func (.func 27) #[] #[]) ho (by kernel_rfl) (by kernel_rfl) (by kernel_rfl) (fun o' h => rn_move h (ev_out (by kernel_rfl) ha9)) (hK _ _ (show Phi13 gb o n nm AC lC cC Z Row 128 _ _ from (by kernel_rfl : (.func (.func 27) #[] #[] : Value) = (VL13 gb o n nm AC lC cC Z).getD 128 undef)) (Below.refl _ _))
    · exact do_val (Op.fieldAddr 24 (.tmp 2) 0) (.pointer (some ⟨gb, 0, none⟩)) ho (by kernel_rfl) (by kernel_rfl) (by kernel_rfl) (fun o' h => rn_field0 h (ev_out (by kernel_rfl) ha2)) (hK _ _ (show Phi13 gb o n nm AC lC cC Z Row 129 _ _ from (by kernel_rfl : (.pointer (some ⟨gb, 0, none⟩) : Value) = (VL13 gb o n nm AC lC cC Z).getD 129 undef)) (Below.refl _ _))
    · have f129 : V 129 = .pointer (some ⟨gb, 0, none⟩) := pre_at (j := 129) ho (by kernel_rfl) (by kernel_rfl) hpre
      exact do_val (Op.load 3 (.tmp 174)) (.int .i64 o) ho (by kernel_rfl) (by kernel_rfl) (by kernel_rfl) (fun o' h => rn_load h (ev_in (j := 129) hsz (by kernel_rfl) (by kernel_rfl) f129) (hcell X hR).1) (hK _ _ (show Phi13 gb o n nm AC lC cC Z Row 130 _ _ from (by kernel_rfl : (.int .i64 o : Value) = (VL13 gb o n nm AC lC cC Z).getD 130 undef)) (Below.refl _ _))
    · have f128 : V 128 = .func (.func 27) #[] #[] := pre_at (j := 128) ho (by kernel_rfl) (by kernel_rfl) hpre
      have f130 : V 130 = .int .i64 o := pre_at (j := 130) ho (by kernel_rfl) (by kernel_rfl) hpre
      refine do_call (Op.call { callee := .value (.tmp 173), args := #[.tmp 175], argTypes := #[3] }) 27 #[.int .i64 o] ho (by kernel_rfl) (by kernel_rfl) (by kernel_rfl) (fun o' h => rn_enter h rfl (ev_in (j := 128) hsz (by kernel_rfl) (by kernel_rfl) f128) (ev_in (j := 130) hsz (by kernel_rfl) (by kernel_rfl) f130)) ((HD1 X).mono ?_)
      rintro e w' ⟨rfl, h⟩
      exact ⟨_, rfl, hK _ _ (show Phi13 gb o n nm AC lC cC Z Row 131 _ _ from (by kernel_rfl : (.string (Z 1) : Value) = (VL13 gb o n nm AC lC cC Z).getD 131 undef)) h⟩
    · have f131 : V 131 = .string (Z 1) := pre_at (j := 131) ho (by kernel_rfl) (by kernel_rfl) hpre
      exact do_val (Op.binOp .add 9 (.const (.string { data := #[66, 85, 78, 68, 76, 69, 32] })) (.tmp 176) 9) (.string (Z 100)) ho (by kernel_rfl) (by kernel_rfl) (by kernel_rfl) (fun o' h => rn_cat h rfl (ev_in (j := 131) hsz (by kernel_rfl) (by kernel_rfl) f131) (hk100 X)) (hK _ _ (show Phi13 gb o n nm AC lC cC Z Row 132 _ _ from (by kernel_rfl : (.string (Z 100) : Value) = (VL13 gb o n nm AC lC cC Z).getD 132 undef)) (Below.refl _ _))
    · have f132 : V 132 = .string (Z 100) := pre_at (j := 132) ho (by kernel_rfl) (by kernel_rfl) hpre
      exact do_val (Op.binOp .add 9 (.tmp 177) (.const (.string { data := #[32] })) 9) (.string (Z 127)) ho (by kernel_rfl) (by kernel_rfl) (by kernel_rfl) (fun o' h => rn_cat h (ev_in (j := 132) hsz (by kernel_rfl) (by kernel_rfl) f132) rfl (hk127 X)) (hK _ _ (show Phi13 gb o n nm AC lC cC Z Row 133 _ _ from (by kernel_rfl : (.string (Z 127) : Value) = (VL13 gb o n nm AC lC cC Z).getD 133 undef)) (Below.refl _ _))
    · exact do_val (Op.move (.tmp 9)) (.func (.func 27) #[] #[]) ho (by kernel_rfl) (by kernel_rfl) (by kernel_rfl) (fun o' h => rn_move h (ev_out (by kernel_rfl) ha9)) (hK _ _ (show Phi13 gb o n nm AC lC cC Z Row 134 _ _ from (by kernel_rfl : (.func (.func 27) #[] #[] : Value) = (VL13 gb o n nm AC lC cC Z).getD 134 undef)) (Below.refl _ _))
    · exact do_val (Op.fieldAddr 24 (.tmp 2) 1) (.pointer (some ⟨gb, 1, none⟩)) ho (by kernel_rfl) (by kernel_rfl) (by kernel_rfl) (fun o' h => rn_field1 h (ev_out (by kernel_rfl) ha2)) (hK _ _ (show Phi13 gb o n nm AC lC cC Z Row 135 _ _ from (by kernel_rfl : (.pointer (some ⟨gb, 1, none⟩) : Value) = (VL13 gb o n nm AC lC cC Z).getD 135 undef)) (Below.refl _ _))
    · have f135 : V 135 = .pointer (some ⟨gb, 1, none⟩) := pre_at (j := 135) ho (by kernel_rfl) (by kernel_rfl) hpre
      exact do_val (Op.load 3 (.tmp 180)) (.int .i64 n) ho (by kernel_rfl) (by kernel_rfl) (by kernel_rfl) (fun o' h => rn_load h (ev_in (j := 135) hsz (by kernel_rfl) (by kernel_rfl) f135) (hcell X hR).2) (hK _ _ (show Phi13 gb o n nm AC lC cC Z Row 136 _ _ from (by kernel_rfl : (.int .i64 n : Value) = (VL13 gb o n nm AC lC cC Z).getD 136 undef)) (Below.refl _ _))
    · have f134 : V 134 = .func (.func 27) #[] #[] := pre_at (j := 134) ho (by kernel_rfl) (by kernel_rfl) hpre
      have f136 : V 136 = .int .i64 n := pre_at (j := 136) ho (by kernel_rfl) (by kernel_rfl) hpre
      refine do_call (Op.call { callee := .value (.tmp 179), args := #[.tmp 181], argTypes := #[3] }) 27 #[.int .i64 n] ho (by kernel_rfl) (by kernel_rfl) (by kernel_rfl) (fun o' h => rn_enter h rfl (ev_in (j := 134) hsz (by kernel_rfl) (by kernel_rfl) f134) (ev_in (j := 136) hsz (by kernel_rfl) (by kernel_rfl) f136)) ((HD2 X).mono ?_)
      rintro e w' ⟨rfl, h⟩
      exact ⟨_, rfl, hK _ _ (show Phi13 gb o n nm AC lC cC Z Row 137 _ _ from (by kernel_rfl : (.string (Z 2) : Value) = (VL13 gb o n nm AC lC cC Z).getD 137 undef)) h⟩
    · have f133 : V 133 = .string (Z 127) := pre_at (j := 133) ho (by kernel_rfl) (by kernel_rfl) hpre
      have f137 : V 137 = .string (Z 2) := pre_at (j := 137) ho (by kernel_rfl) (by kernel_rfl) hpre
      exact do_val (Op.binOp .add 9 (.tmp 178) (.tmp 182) 9) (.string (Z 128)) ho (by kernel_rfl) (by kernel_rfl) (by kernel_rfl) (fun o' h => rn_cat h (ev_in (j := 133) hsz (by kernel_rfl) (by kernel_rfl) f133) (ev_in (j := 137) hsz (by kernel_rfl) (by kernel_rfl) f137) (hk128 X)) (hK _ _ (show Phi13 gb o n nm AC lC cC Z Row 138 _ _ from (by kernel_rfl : (.string (Z 128) : Value) = (VL13 gb o n nm AC lC cC Z).getD 138 undef)) (Below.refl _ _))
    · have f138 : V 138 = .string (Z 128) := pre_at (j := 138) ho (by kernel_rfl) (by kernel_rfl) hpre
      exact do_val (Op.binOp .add 9 (.tmp 183) (.const (.string { data := #[32] })) 9) (.string (Z 129)) ho (by kernel_rfl) (by kernel_rfl) (by kernel_rfl) (fun o' h => rn_cat h (ev_in (j := 138) hsz (by kernel_rfl) (by kernel_rfl) f138) rfl (hk129 X)) (hK _ _ (show Phi13 gb o n nm AC lC cC Z Row 139 _ _ from (by kernel_rfl : (.string (Z 129) : Value) = (VL13 gb o n nm AC lC cC Z).getD 139 undef)) (Below.refl _ _))
    · exact do_val (Op.move (.tmp 9)) (.func (.func 27) #[] #[]) ho (by kernel_rfl) (by kernel_rfl) (by kernel_rfl) (fun o' h => rn_move h (ev_out (by kernel_rfl) ha9)) (hK _ _ (show Phi13 gb o n nm AC lC cC Z Row 140 _ _ from (by kernel_rfl : (.func (.func 27) #[] #[] : Value) = (VL13 gb o n nm AC lC cC Z).getD 140 undef)) (Below.refl _ _))
    · exact do_val (Op.move (.tmp 10)) (.int .i64 nm) ho (by kernel_rfl) (by kernel_rfl) (by kernel_rfl) (fun o' h => rn_move h (ev_out (by kernel_rfl) ha10)) (hK _ _ (show Phi13 gb o n nm AC lC cC Z Row 141 _ _ from (by kernel_rfl : (.int .i64 nm : Value) = (VL13 gb o n nm AC lC cC Z).getD 141 undef)) (Below.refl _ _))
    · have f140 : V 140 = .func (.func 27) #[] #[] := pre_at (j := 140) ho (by kernel_rfl) (by kernel_rfl) hpre
      have f141 : V 141 = .int .i64 nm := pre_at (j := 141) ho (by kernel_rfl) (by kernel_rfl) hpre
      refine do_call (Op.call { callee := .value (.tmp 185), args := #[.tmp 186], argTypes := #[3] }) 27 #[.int .i64 nm] ho (by kernel_rfl) (by kernel_rfl) (by kernel_rfl) (fun o' h => rn_enter h rfl (ev_in (j := 140) hsz (by kernel_rfl) (by kernel_rfl) f140) (ev_in (j := 141) hsz (by kernel_rfl) (by kernel_rfl) f141)) ((HD3 X).mono ?_)
      rintro e w' ⟨rfl, h⟩
      exact ⟨_, rfl, hK _ _ (show Phi13 gb o n nm AC lC cC Z Row 142 _ _ from (by kernel_rfl : (.string (Z 3) : Value) = (VL13 gb o n nm AC lC cC Z).getD 142 undef)) h⟩
    · have f139 : V 139 = .string (Z 129) := pre_at (j := 139) ho (by kernel_rfl) (by kernel_rfl) hpre
      have f142 : V 142 = .string (Z 3) := pre_at (j := 142) ho (by kernel_rfl) (by kernel_rfl) hpre
      exact do_val (Op.binOp .add 9 (.tmp 184) (.tmp 187) 9) (.string (Z 135)) ho (by kernel_rfl) (by kernel_rfl) (by kernel_rfl) (fun o' h => rn_cat h (ev_in (j := 139) hsz (by kernel_rfl) (by kernel_rfl) f139) (ev_in (j := 142) hsz (by kernel_rfl) (by kernel_rfl) f142) (hk135 X)) (hK _ _ (show Phi13 gb o n nm AC lC cC Z Row 143 _ _ from (by kernel_rfl : (.string (Z 135) : Value) = (VL13 gb o n nm AC lC cC Z).getD 143 undef)) (Below.refl _ _))
    · have f143 : V 143 = .string (Z 135) := pre_at (j := 143) ho (by kernel_rfl) (by kernel_rfl) hpre
      exact do_val (Op.binOp .add 9 (.tmp 188) (.const (.string { data := #[32] })) 9) (.string (Z 136)) ho (by kernel_rfl) (by kernel_rfl) (by kernel_rfl) (fun o' h => rn_cat h (ev_in (j := 143) hsz (by kernel_rfl) (by kernel_rfl) f143) rfl (hk136 X)) (hK _ _ (show Phi13 gb o n nm AC lC cC Z Row 144 _ _ from (by kernel_rfl : (.string (Z 136) : Value) = (VL13 gb o n nm AC lC cC Z).getD 144 undef)) (Below.refl _ _))
    · exact do_val (Op.move (.tmp 9)) (.func (.func 27) #[] #[]) ho (by kernel_rfl) (by kernel_rfl) (by kernel_rfl) (fun o' h => rn_move h (ev_out (by kernel_rfl) ha9)) (hK _ _ (show Phi13 gb o n nm AC lC cC Z Row 145 _ _ from (by kernel_rfl : (.func (.func 27) #[] #[] : Value) = (VL13 gb o n nm AC lC cC Z).getD 145 undef)) (Below.refl _ _))
    · exact do_val (Op.move (.tmp 8)) (.slice AC lC cC) ho (by kernel_rfl) (by kernel_rfl) (by kernel_rfl) (fun o' h => rn_move h (ev_out (by kernel_rfl) ha8)) (hK _ _ (show Phi13 gb o n nm AC lC cC Z Row 146 _ _ from (by kernel_rfl : (.slice AC lC cC : Value) = (VL13 gb o n nm AC lC cC Z).getD 146 undef)) (Below.refl _ _))
    · have f146 : V 146 = .slice AC lC cC := pre_at (j := 146) ho (by kernel_rfl) (by kernel_rfl) hpre
      exact do_val (Op.call { callee := .builtin .len, args := #[.tmp 191], argTypes := #[25] }) (.int .i64 (lC : Int)) ho (by kernel_rfl) (by kernel_rfl) (by kernel_rfl) (fun o' h => rn_len h (ev_in (j := 146) hsz (by kernel_rfl) (by kernel_rfl) f146)) (hK _ _ (show Phi13 gb o n nm AC lC cC Z Row 147 _ _ from (by kernel_rfl : (.int .i64 (lC : Int) : Value) = (VL13 gb o n nm AC lC cC Z).getD 147 undef)) (Below.refl _ _))
    · have f145 : V 145 = .func (.func 27) #[] #[] := pre_at (j := 145) ho (by kernel_rfl) (by kernel_rfl) hpre
      have f147 : V 147 = .int .i64 (lC : Int) := pre_at (j := 147) ho (by kernel_rfl) (by kernel_rfl) hpre
      refine do_call (Op.call { callee := .value (.tmp 190), args := #[.tmp 192], argTypes := #[3] }) 27 #[.int .i64 (lC : Int)] ho (by kernel_rfl) (by kernel_rfl) (by kernel_rfl) (fun o' h => rn_enter h rfl (ev_in (j := 145) hsz (by kernel_rfl) (by kernel_rfl) f145) (ev_in (j := 147) hsz (by kernel_rfl) (by kernel_rfl) f147)) ((HD4 X).mono ?_)
      rintro e w' ⟨rfl, h⟩
      exact ⟨_, rfl, hK _ _ (show Phi13 gb o n nm AC lC cC Z Row 148 _ _ from (by kernel_rfl : (.string (Z 4) : Value) = (VL13 gb o n nm AC lC cC Z).getD 148 undef)) h⟩
    · have f144 : V 144 = .string (Z 136) := pre_at (j := 144) ho (by kernel_rfl) (by kernel_rfl) hpre
      have f148 : V 148 = .string (Z 4) := pre_at (j := 148) ho (by kernel_rfl) (by kernel_rfl) hpre
      exact do_val (Op.binOp .add 9 (.tmp 189) (.tmp 193) 9) (.string (Z 140)) ho (by kernel_rfl) (by kernel_rfl) (by kernel_rfl) (fun o' h => rn_cat h (ev_in (j := 144) hsz (by kernel_rfl) (by kernel_rfl) f144) (ev_in (j := 148) hsz (by kernel_rfl) (by kernel_rfl) f148) (hk140 X)) (hK _ _ (show Phi13 gb o n nm AC lC cC Z Row 149 _ _ from (by kernel_rfl : (.string (Z 140) : Value) = (VL13 gb o n nm AC lC cC Z).getD 149 undef)) (Below.refl _ _))
    · have f149 : V 149 = .string (Z 140) := pre_at (j := 149) ho (by kernel_rfl) (by kernel_rfl) hpre
      exact do_val (Op.binOp .add 9 (.tmp 194) (.const (.string { data := #[32, 32] })) 9) (.string (Z 141)) ho (by kernel_rfl) (by kernel_rfl) (by kernel_rfl) (fun o' h => rn_cat h (ev_in (j := 149) hsz (by kernel_rfl) (by kernel_rfl) f149) rfl (hk141 X)) (hK _ _ (show Phi13 gb o n nm AC lC cC Z Row 150 _ _ from (by kernel_rfl : (.string (Z 141) : Value) = (VL13 gb o n nm AC lC cC Z).getD 150 undef)) (Below.refl _ _))
    · exact do_val (Op.move (.tmp 11)) (.string (Z 5)) ho (by kernel_rfl) (by kernel_rfl) (by kernel_rfl) (fun o' h => rn_move h (ev_out (by kernel_rfl) ha11)) (hK _ _ (show Phi13 gb o n nm AC lC cC Z Row 151 _ _ from (by kernel_rfl : (.string (Z 5) : Value) = (VL13 gb o n nm AC lC cC Z).getD 151 undef)) (Below.refl _ _))
    · have f150 : V 150 = .string (Z 141) := pre_at (j := 150) ho (by kernel_rfl) (by kernel_rfl) hpre
      have f151 : V 151 = .string (Z 5) := pre_at (j := 151) ho (by kernel_rfl) (by kernel_rfl) hpre
      exact do_val (Op.binOp .add 9 (.tmp 195) (.tmp 196) 9) (.string (Z 142)) ho (by kernel_rfl) (by kernel_rfl) (by kernel_rfl) (fun o' h => rn_cat h (ev_in (j := 150) hsz (by kernel_rfl) (by kernel_rfl) f150) (ev_in (j := 151) hsz (by kernel_rfl) (by kernel_rfl) f151) (hk142 X)) (hK _ _ (show Phi13 gb o n nm AC lC cC Z Row 152 _ _ from (by kernel_rfl : (.string (Z 142) : Value) = (VL13 gb o n nm AC lC cC Z).getD 152 undef)) (Below.refl _ _))
    · exact do_val (Op.move (.tmp 9)) (.func (.func 27) #[] #[]) ho (by kernel_rfl) (by kernel_rfl) (by kernel_rfl) (fun o' h => rn_move h (ev_out (by kernel_rfl) ha9)) (hK _ _ (show Phi13 gb o n nm AC lC cC Z Row 153 _ _ from (by kernel_rfl : (.func (.func 27) #[] #[] : Value) = (VL13 gb o n nm AC lC cC Z).getD 153 undef)) (Below.refl _ _))
    · exact do_val (Op.fieldAddr 24 (.tmp 2) 0) (.pointer (some ⟨gb, 0, none⟩)) ho (by kernel_rfl) (by kernel_rfl) (by kernel_rfl) (fun o' h => rn_field0 h (ev_out (by kernel_rfl) ha2)) (hK _ _ (show Phi13 gb o n nm AC lC cC Z Row 154 _ _ from (by kernel_rfl : (.pointer (some ⟨gb, 0, none⟩) : Value) = (VL13 gb o n nm AC lC cC Z).getD 154 undef)) (Below.refl _ _))
    · have f154 : V 154 = .pointer (some ⟨gb, 0, none⟩) := pre_at (j := 154) ho (by kernel_rfl) (by kernel_rfl) hpre
      exact do_val (Op.load 3 (.tmp 199)) (.int .i64 o) ho (by kernel_rfl) (by kernel_rfl) (by kernel_rfl) (fun o' h => rn_load h (ev_in (j := 154) hsz (by kernel_rfl) (by kernel_rfl) f154) (hcell X hR).1) (hK _ _ (show Phi13 gb o n nm AC lC cC Z Row 155 _ _ from (by kernel_rfl : (.int .i64 o : Value) = (VL13 gb o n nm AC lC cC Z).getD 155 undef)) (Below.refl _ _))
    · have f153 : V 153 = .func (.func 27) #[] #[] := pre_at (j := 153) ho (by kernel_rfl) (by kernel_rfl) hpre
      have f155 : V 155 = .int .i64 o := pre_at (j := 155) ho (by kernel_rfl) (by kernel_rfl) hpre
      refine do_call (Op.call { callee := .value (.tmp 198), args := #[.tmp 200], argTypes := #[3] }) 27 #[.int .i64 o] ho (by kernel_rfl) (by kernel_rfl) (by kernel_rfl) (fun o' h => rn_enter h rfl (ev_in (j := 153) hsz (by kernel_rfl) (by kernel_rfl) f153) (ev_in (j := 155) hsz (by kernel_rfl) (by kernel_rfl) f155)) ((HD1 X).mono ?_)
      rintro e w' ⟨rfl, h⟩
      exact ⟨_, rfl, hK _ _ (show Phi13 gb o n nm AC lC cC Z Row 156 _ _ from (by kernel_rfl : (.string (Z 1) : Value) = (VL13 gb o n nm AC lC cC Z).getD 156 undef)) h⟩
    · have f156 : V 156 = .string (Z 1) := pre_at (j := 156) ho (by kernel_rfl) (by kernel_rfl) hpre
      exact do_val (Op.binOp .add 9 (.const (.string { data := #[66, 85, 78, 68, 76, 69, 32] })) (.tmp 201) 9) (.string (Z 100)) ho (by kernel_rfl) (by kernel_rfl) (by kernel_rfl) (fun o' h => rn_cat h rfl (ev_in (j := 156) hsz (by kernel_rfl) (by kernel_rfl) f156) (hk100 X)) (hK _ _ (show Phi13 gb o n nm AC lC cC Z Row 157 _ _ from (by kernel_rfl : (.string (Z 100) : Value) = (VL13 gb o n nm AC lC cC Z).getD 157 undef)) (Below.refl _ _))
    · have f157 : V 157 = .string (Z 100) := pre_at (j := 157) ho (by kernel_rfl) (by kernel_rfl) hpre
      exact do_val (Op.binOp .add 9 (.tmp 202) (.const (.string { data := #[32, 54, 53, 53, 51, 54, 32] })) 9) (.string (Z 143)) ho (by kernel_rfl) (by kernel_rfl) (by kernel_rfl) (fun o' h => rn_cat h (ev_in (j := 157) hsz (by kernel_rfl) (by kernel_rfl) f157) rfl (hk143 X)) (hK _ _ (show Phi13 gb o n nm AC lC cC Z Row 158 _ _ from (by kernel_rfl : (.string (Z 143) : Value) = (VL13 gb o n nm AC lC cC Z).getD 158 undef)) (Below.refl _ _))
    · exact do_val (Op.move (.tmp 9)) (.func (.func 27) #[] #[]) ho (by kernel_rfl) (by kernel_rfl) (by kernel_rfl) (fun o' h => rn_move h (ev_out (by kernel_rfl) ha9)) (hK _ _ (show Phi13 gb o n nm AC lC cC Z Row 159 _ _ from (by kernel_rfl : (.func (.func 27) #[] #[] : Value) = (VL13 gb o n nm AC lC cC Z).getD 159 undef)) (Below.refl _ _))
    · exact do_val (Op.move (.tmp 10)) (.int .i64 nm) ho (by kernel_rfl) (by kernel_rfl) (by kernel_rfl) (fun o' h => rn_move h (ev_out (by kernel_rfl) ha10)) (hK _ _ (show Phi13 gb o n nm AC lC cC Z Row 160 _ _ from (by kernel_rfl : (.int .i64 nm : Value) = (VL13 gb o n nm AC lC cC Z).getD 160 undef)) (Below.refl _ _))
    · have f159 : V 159 = .func (.func 27) #[] #[] := pre_at (j := 159) ho (by kernel_rfl) (by kernel_rfl) hpre
      have f160 : V 160 = .int .i64 nm := pre_at (j := 160) ho (by kernel_rfl) (by kernel_rfl) hpre
      refine do_call (Op.call { callee := .value (.tmp 204), args := #[.tmp 205], argTypes := #[3] }) 27 #[.int .i64 nm] ho (by kernel_rfl) (by kernel_rfl) (by kernel_rfl) (fun o' h => rn_enter h rfl (ev_in (j := 159) hsz (by kernel_rfl) (by kernel_rfl) f159) (ev_in (j := 160) hsz (by kernel_rfl) (by kernel_rfl) f160)) ((HD3 X).mono ?_)
      rintro e w' ⟨rfl, h⟩
      exact ⟨_, rfl, hK _ _ (show Phi13 gb o n nm AC lC cC Z Row 161 _ _ from (by kernel_rfl : (.string (Z 3) : Value) = (VL13 gb o n nm AC lC cC Z).getD 161 undef)) h⟩
    · have f158 : V 158 = .string (Z 143) := pre_at (j := 158) ho (by kernel_rfl) (by kernel_rfl) hpre
      have f161 : V 161 = .string (Z 3) := pre_at (j := 161) ho (by kernel_rfl) (by kernel_rfl) hpre
      exact do_val (Op.binOp .add 9 (.tmp 203) (.tmp 206) 9) (.string (Z 144)) ho (by kernel_rfl) (by kernel_rfl) (by kernel_rfl) (fun o' h => rn_cat h (ev_in (j := 158) hsz (by kernel_rfl) (by kernel_rfl) f158) (ev_in (j := 161) hsz (by kernel_rfl) (by kernel_rfl) f161) (hk144 X)) (hK _ _ (show Phi13 gb o n nm AC lC cC Z Row 162 _ _ from (by kernel_rfl : (.string (Z 144) : Value) = (VL13 gb o n nm AC lC cC Z).getD 162 undef)) (Below.refl _ _))
    · have f162 : V 162 = .string (Z 144) := pre_at (j := 162) ho (by kernel_rfl) (by kernel_rfl) hpre
      exact do_val (Op.binOp .add 9 (.tmp 207) (.const (.string { data := #[32] })) 9) (.string (Z 145)) ho (by kernel_rfl) (by kernel_rfl) (by kernel_rfl) (fun o' h => rn_cat h (ev_in (j := 162) hsz (by kernel_rfl) (by kernel_rfl) f162) rfl (hk145 X)) (hK _ _ (show Phi13 gb o n nm AC lC cC Z Row 163 _ _ from (by kernel_rfl : (.string (Z 145) : Value) = (VL13 gb o n nm AC lC cC Z).getD 163 undef)) (Below.refl _ _))
    · exact do_val (Op.move (.tmp 9)) (.func (.func 27) #[] #[]) ho (by kernel_rfl) (by kernel_rfl) (by kernel_rfl) (fun o' h => rn_move h (ev_out (by kernel_rfl) ha9)) (hK _ _ (show Phi13 gb o n nm AC lC cC Z Row 164 _ _ from (by kernel_rfl : (.func (.func 27) #[] #[] : Value) = (VL13 gb o n nm AC lC cC Z).getD 164 undef)) (Below.refl _ _))
    · exact do_val (Op.move (.tmp 8)) (.slice AC lC cC) ho (by kernel_rfl) (by kernel_rfl) (by kernel_rfl) (fun o' h => rn_move h (ev_out (by kernel_rfl) ha8)) (hK _ _ (show Phi13 gb o n nm AC lC cC Z Row 165 _ _ from (by kernel_rfl : (.slice AC lC cC : Value) = (VL13 gb o n nm AC lC cC Z).getD 165 undef)) (Below.refl _ _))
    · have f165 : V 165 = .slice AC lC cC := pre_at (j := 165) ho (by kernel_rfl) (by kernel_rfl) hpre
      exact do_val (Op.call { callee := .builtin .len, args := #[.tmp 210], argTypes := #[25] }) (.int .i64 (lC : Int)) ho (by kernel_rfl) (by kernel_rfl) (by kernel_rfl) (fun o' h => rn_len h (ev_in (j := 165) hsz (by kernel_rfl) (by kernel_rfl) f165)) (hK _ _ (show Phi13 gb o n nm AC lC cC Z Row 166 _ _ from (by kernel_rfl : (.int .i64 (lC : Int) : Value) = (VL13 gb o n nm AC lC cC Z).getD 166 undef)) (Below.refl _ _))
    · have f164 : V 164 = .func (.func 27) #[] #[] := pre_at (j := 164) ho (by kernel_rfl) (by kernel_rfl) hpre
      have f166 : V 166 = .int .i64 (lC : Int) := pre_at (j := 166) ho (by kernel_rfl) (by kernel_rfl) hpre
      refine do_call (Op.call { callee := .value (.tmp 209), args := #[.tmp 211], argTypes := #[3] }) 27 #[.int .i64 (lC : Int)] ho (by kernel_rfl) (by kernel_rfl) (by kernel_rfl) (fun o' h => rn_enter h rfl (ev_in (j := 164) hsz (by kernel_rfl) (by kernel_rfl) f164) (ev_in (j := 166) hsz (by kernel_rfl) (by kernel_rfl) f166)) ((HD4 X).mono ?_)
      rintro e w' ⟨rfl, h⟩
      exact ⟨_, rfl, hK _ _ (show Phi13 gb o n nm AC lC cC Z Row 167 _ _ from (by kernel_rfl : (.string (Z 4) : Value) = (VL13 gb o n nm AC lC cC Z).getD 167 undef)) h⟩
    · have f163 : V 163 = .string (Z 145) := pre_at (j := 163) ho (by kernel_rfl) (by kernel_rfl) hpre
      have f167 : V 167 = .string (Z 4) := pre_at (j := 167) ho (by kernel_rfl) (by kernel_rfl) hpre
      exact do_val (Op.binOp .add 9 (.tmp 208) (.tmp 212) 9) (.string (Z 146)) ho (by kernel_rfl) (by kernel_rfl) (by kernel_rfl) (fun o' h => rn_cat h (ev_in (j := 163) hsz (by kernel_rfl) (by kernel_rfl) f163) (ev_in (j := 167) hsz (by kernel_rfl) (by kernel_rfl) f167) (hk146 X)) (hK _ _ (show Phi13 gb o n nm AC lC cC Z Row 168 _ _ from (by kernel_rfl : (.string (Z 146) : Value) = (VL13 gb o n nm AC lC cC Z).getD 168 undef)) (Below.refl _ _))
    · have f168 : V 168 = .string (Z 146) := pre_at (j := 168) ho (by kernel_rfl) (by kernel_rfl) hpre
      exact do_val (Op.binOp .add 9 (.tmp 213) (.const (.string { data := #[32] })) 9) (.string (Z 147)) ho (by kernel_rfl) (by kernel_rfl) (by kernel_rfl) (fun o' h => rn_cat h (ev_in (j := 168) hsz (by kernel_rfl) (by kernel_rfl) f168) rfl (hk147 X)) (hK _ _ (show Phi13 gb o n nm AC lC cC Z Row 169 _ _ from (by kernel_rfl : (.string (Z 147) : Value) = (VL13 gb o n nm AC lC cC Z).getD 169 undef)) (Below.refl _ _))
    · exact do_val (Op.move (.tmp 11)) (.string (Z 5)) ho (by kernel_rfl) (by kernel_rfl) (by kernel_rfl) (fun o' h => rn_move h (ev_out (by kernel_rfl) ha11)) (hK _ _ (show Phi13 gb o n nm AC lC cC Z Row 170 _ _ from (by kernel_rfl : (.string (Z 5) : Value) = (VL13 gb o n nm AC lC cC Z).getD 170 undef)) (Below.refl _ _))
    · have f169 : V 169 = .string (Z 147) := pre_at (j := 169) ho (by kernel_rfl) (by kernel_rfl) hpre
      have f170 : V 170 = .string (Z 5) := pre_at (j := 170) ho (by kernel_rfl) (by kernel_rfl) hpre
      exact do_val (Op.binOp .add 9 (.tmp 214) (.tmp 215) 9) (.string (Z 148)) ho (by kernel_rfl) (by kernel_rfl) (by kernel_rfl) (fun o' h => rn_cat h (ev_in (j := 169) hsz (by kernel_rfl) (by kernel_rfl) f169) (ev_in (j := 170) hsz (by kernel_rfl) (by kernel_rfl) f170) (hk148 X)) (hK _ _ (show Phi13 gb o n nm AC lC cC Z Row 171 _ _ from (by kernel_rfl : (.string (Z 148) : Value) = (VL13 gb o n nm AC lC cC Z).getD 171 undef)) (Below.refl _ _))
    · have f24 : V 24 = .string (Z 108) := pre_at (j := 24) ho (by kernel_rfl) (by kernel_rfl) hpre
      have f49 : V 49 = .string (Z 117) := pre_at (j := 49) ho (by kernel_rfl) (by kernel_rfl) hpre
      have f75 : V 75 = .string (Z 126) := pre_at (j := 75) ho (by kernel_rfl) (by kernel_rfl) hpre
      have f101 : V 101 = .string (Z 134) := pre_at (j := 101) ho (by kernel_rfl) (by kernel_rfl) hpre
      have f127 : V 127 = .string (Z 139) := pre_at (j := 127) ho (by kernel_rfl) (by kernel_rfl) hpre
      have f152 : V 152 = .string (Z 142) := pre_at (j := 152) ho (by kernel_rfl) (by kernel_rfl) hpre
      have f171 : V 171 = .string (Z 148) := pre_at (j := 171) ho (by kernel_rfl) (by kernel_rfl) hpre
      refine do_new (X' := X.alloc (.cells #[.string (Z 108), .string (Z 117), .string (Z 126), .string (Z 134), .string (Z 139), .string (Z 142), .string (Z 148)] 9)) (Op.buildSlice 57 7 #[(0, .tmp 69), (1, .tmp 94), (2, .tmp 120), (3, .tmp 146), (4, .tmp 172), (5, .tmp 197), (6, .tmp 216)]) (.slice (some ⟨X.heap.size, 0, none⟩) 7 7) ho (by kernel_rfl) (by kernel_rfl) (by kernel_rfl) (fun o' h => ?_) (hK _ _ ?_ ((Below.refl _ _).alloc (Nat.le_refl _) _))
      · exact rn_heads h (ev_in (j := 24) hsz (by kernel_rfl) (by kernel_rfl) f24) (ev_in (j := 49) hsz (by kernel_rfl) (by kernel_rfl) f49) (ev_in (j := 75) hsz (by kernel_rfl) (by kernel_rfl) f75) (ev_in (j := 101) hsz (by kernel_rfl) (by kernel_rfl) f101) (ev_in (j := 127) hsz (by kernel_rfl) (by kernel_rfl) f127) (ev_in (j := 152) hsz (by kernel_rfl) (by kernel_rfl) f152) (ev_in (j := 171) hsz (by kernel_rfl) (by kernel_rfl) f171)
      · show Row _ _
        rw [hRow]
        exact ⟨_, rfl, heap_alloc_new _ _⟩
    · have f172 : Row (V 172) X := by
        have hb : (ops13[173]?.map fun o => o.after.any fun e => e.on == 172 && Region.binds .any e) = some true := by kernel_rfl
        rw [ho] at hb
        simp only [Option.map_some, Option.some.injEq, Array.any_eq_true] at hb
        obtain ⟨k, hk, hb⟩ := hb
        simp only [Bool.and_eq_true, beq_iff_eq] at hb
        have h := hpre _ (Array.getElem_mem hk) hb.2 (by rw [hb.1]; rfl)
        rw [hb.1] at h
        exact h
      exact do_val (.assign (.tmp 217)) (V 172) ho (by kernel_rfl) (by kernel_rfl) (by kernel_rfl) (fun o' h => rn_assign h (ev_in (j := 172) hsz (by kernel_rfl) (by kernel_rfl) rfl)) (hK _ _ f172 (Below.refl _ _))
end Go.Proofs.YtpfmnkpmidjfjaaGreatDoor
/- BundleForms' region 13 with its frame written out. -/
namespace Go.Proofs.YtpfmnkpmidjfjaaGreatDoor
open Go.RowKit Go.Lib
open Go.Proofs.YtpfmnkpmidjfjaaGreatDoorW.PrintWords
set_option linter.unusedVariables false
set_option linter.unusedSimpArgs false
open Facts
theorem acE_defers (ds : List (Nat × Option Tmp)) : ∀ (a : Act) (V : Nat → Value), (acE a ds V).defers = a.defers := by
  induction ds with
  | nil => intro _ _; rfl
  | cons x ds ih =>
    intro a V
    simp only [acE]
    rw [ih]
    unfold Act.put
    split <;> rfl
theorem tmps_lit (x : Array Value) (n : Nat) (h : x.size = n) : x = ((List.range n).map fun i => x.getD i undef).toArray := by
  apply Array.ext (by simp [h])
  intro i h1 h2
  simp [Array.getD, h1]
theorem act_lit (a : Act) (n : Nat) (h : a.tmps.size = n) (hd : a.defers = []) : a = ⟨((List.range n).map fun i => a.eval (.tmp i)).toArray, []⟩ := by
  have e := tmps_lit a.tmps n h
  cases a with
  | mk t d =>
    simp only at e hd
    subst hd
    exact congrArg (fun x => (⟨x, []⟩ : Act)) e
set_option maxRecDepth 100000 in
set_option maxHeartbeats 4000000 in
theorem forms_region2 (Q : Exit → Act → World → Prop) (a : Act) (W0 : World) (gb : Nat) (o n nm : Int) (AC : Option Addr) (lC cC : Nat) (Z : Nat → ByteArray) (v1 v5 : Value) (hs : a.tmps.size = 257) (hdf : a.defers = []) (ha1 : a.eval (.tmp 1) = v1) (ha5 : a.eval (.tmp 5) = v5)
    (ha2 : a.eval (.tmp 2) = .pointer (some ⟨gb, 0, none⟩)) (ha8 : a.eval (.tmp 8) = .slice AC lC cC) (ha9 : a.eval (.tmp 9) = .func (.func 27) #[] #[]) (ha10 : a.eval (.tmp 10) = .int .i64 nm) (ha11 : a.eval (.tmp 11) = .string (Z 5))
    (hcell : ∀ X, Below W0.heap.size W0 X → X.cell? ⟨gb, 0, none⟩ = some (.int .i64 o) ∧ X.cell? ⟨gb, 1, none⟩ = some (.int .i64 n))
    (hw1 : IntKind.i64.wrap (o + 2) = o + 2) (hw3 : IntKind.i64.wrap (nm + 1) = nm + 1) (hw4 : IntKind.i64.wrap ((lC : Int) + 1) = (lC : Int) + 1)
    (HD1 : ∀ w, Calls Tryz.prog 27 #[.int .i64 o] w fun e w' => e = .returned (.string (Z 1)) ∧ Below w.heap.size w w') (HD2 : ∀ w, Calls Tryz.prog 27 #[.int .i64 n] w fun e w' => e = .returned (.string (Z 2)) ∧ Below w.heap.size w w') (HD3 : ∀ w, Calls Tryz.prog 27 #[.int .i64 nm] w fun e w' => e = .returned (.string (Z 3)) ∧ Below w.heap.size w w') (HD4 : ∀ w, Calls Tryz.prog 27 #[.int .i64 (lC : Int)] w fun e w' => e = .returned (.string (Z 4)) ∧ Below w.heap.size w w') (HG1 : ∀ w, Calls Tryz.prog 27 #[.int .i64 (o + 2)] w fun e w' => e = .returned (.string (Z 11)) ∧ Below w.heap.size w w') (HG3 : ∀ w, Calls Tryz.prog 27 #[.int .i64 (nm + 1)] w fun e w' => e = .returned (.string (Z 13)) ∧ Below w.heap.size w w') (HG4 : ∀ w, Calls Tryz.prog 27 #[.int .i64 ((lC : Int) + 1)] w fun e w' => e = .returned (.string (Z 14)) ∧ Below w.heap.size w w')
    (hk100 : ∀ w, (Op.stringOp .add ({ data := #[66, 85, 78, 68, 76, 69, 32] } : ByteArray) (Z 1)).run Tryz.prog w = .ok (.string (Z 100)) w) (hk101 : ∀ w, (Op.stringOp .add (Z 100) ({ data := #[32, 48] } : ByteArray)).run Tryz.prog w = .ok (.string (Z 101)) w) (hk102 : ∀ w, (Op.stringOp .add (Z 101) (Z 2)).run Tryz.prog w = .ok (.string (Z 102)) w) (hk103 : ∀ w, (Op.stringOp .add (Z 102) ({ data := #[32] } : ByteArray)).run Tryz.prog w = .ok (.string (Z 103)) w) (hk104 : ∀ w, (Op.stringOp .add (Z 103) (Z 3)).run Tryz.prog w = .ok (.string (Z 104)) w) (hk105 : ∀ w, (Op.stringOp .add (Z 104) ({ data := #[32] } : ByteArray)).run Tryz.prog w = .ok (.string (Z 105)) w) (hk106 : ∀ w, (Op.stringOp .add (Z 105) (Z 4)).run Tryz.prog w = .ok (.string (Z 106)) w) (hk107 : ∀ w, (Op.stringOp .add (Z 106) ({ data := #[32] } : ByteArray)).run Tryz.prog w = .ok (.string (Z 107)) w) (hk108 : ∀ w, (Op.stringOp .add (Z 107) (Z 5)).run Tryz.prog w = .ok (.string (Z 108)) w) (hk109 : ∀ w, (Op.stringOp .add ({ data := #[98, 117, 110, 100, 108, 101, 32] } : ByteArray) (Z 1)).run Tryz.prog w = .ok (.string (Z 109)) w) (hk110 : ∀ w, (Op.stringOp .add (Z 109) ({ data := #[32] } : ByteArray)).run Tryz.prog w = .ok (.string (Z 110)) w) (hk111 : ∀ w, (Op.stringOp .add (Z 110) (Z 2)).run Tryz.prog w = .ok (.string (Z 111)) w) (hk112 : ∀ w, (Op.stringOp .add (Z 111) ({ data := #[32] } : ByteArray)).run Tryz.prog w = .ok (.string (Z 112)) w) (hk113 : ∀ w, (Op.stringOp .add (Z 112) (Z 3)).run Tryz.prog w = .ok (.string (Z 113)) w) (hk114 : ∀ w, (Op.stringOp .add (Z 113) ({ data := #[32] } : ByteArray)).run Tryz.prog w = .ok (.string (Z 114)) w) (hk115 : ∀ w, (Op.stringOp .add (Z 114) (Z 4)).run Tryz.prog w = .ok (.string (Z 115)) w) (hk116 : ∀ w, (Op.stringOp .add (Z 115) ({ data := #[32] } : ByteArray)).run Tryz.prog w = .ok (.string (Z 116)) w) (hk117 : ∀ w, (Op.stringOp .add (Z 116) (Z 5)).run Tryz.prog w = .ok (.string (Z 117)) w) (hk118 : ∀ w, (Op.stringOp .add ({ data := #[66, 85, 78, 68, 76, 69, 32] } : ByteArray) (Z 11)).run Tryz.prog w = .ok (.string (Z 118)) w) (hk119 : ∀ w, (Op.stringOp .add (Z 118) ({ data := #[32] } : ByteArray)).run Tryz.prog w = .ok (.string (Z 119)) w) (hk120 : ∀ w, (Op.stringOp .add (Z 119) (Z 2)).run Tryz.prog w = .ok (.string (Z 120)) w) (hk121 : ∀ w, (Op.stringOp .add (Z 120) ({ data := #[32] } : ByteArray)).run Tryz.prog w = .ok (.string (Z 121)) w) (hk122 : ∀ w, (Op.stringOp .add (Z 121) (Z 3)).run Tryz.prog w = .ok (.string (Z 122)) w) (hk123 : ∀ w, (Op.stringOp .add (Z 122) ({ data := #[32] } : ByteArray)).run Tryz.prog w = .ok (.string (Z 123)) w) (hk124 : ∀ w, (Op.stringOp .add (Z 123) (Z 4)).run Tryz.prog w = .ok (.string (Z 124)) w) (hk125 : ∀ w, (Op.stringOp .add (Z 124) ({ data := #[32] } : ByteArray)).run Tryz.prog w = .ok (.string (Z 125)) w) (hk126 : ∀ w, (Op.stringOp .add (Z 125) (Z 5)).run Tryz.prog w = .ok (.string (Z 126)) w) (hk127 : ∀ w, (Op.stringOp .add (Z 100) ({ data := #[32] } : ByteArray)).run Tryz.prog w = .ok (.string (Z 127)) w) (hk128 : ∀ w, (Op.stringOp .add (Z 127) (Z 2)).run Tryz.prog w = .ok (.string (Z 128)) w) (hk129 : ∀ w, (Op.stringOp .add (Z 128) ({ data := #[32] } : ByteArray)).run Tryz.prog w = .ok (.string (Z 129)) w) (hk130 : ∀ w, (Op.stringOp .add (Z 129) (Z 13)).run Tryz.prog w = .ok (.string (Z 130)) w) (hk131 : ∀ w, (Op.stringOp .add (Z 130) ({ data := #[32] } : ByteArray)).run Tryz.prog w = .ok (.string (Z 131)) w) (hk132 : ∀ w, (Op.stringOp .add (Z 131) (Z 4)).run Tryz.prog w = .ok (.string (Z 132)) w) (hk133 : ∀ w, (Op.stringOp .add (Z 132) ({ data := #[32] } : ByteArray)).run Tryz.prog w = .ok (.string (Z 133)) w) (hk134 : ∀ w, (Op.stringOp .add (Z 133) (Z 5)).run Tryz.prog w = .ok (.string (Z 134)) w) (hk135 : ∀ w, (Op.stringOp .add (Z 129) (Z 3)).run Tryz.prog w = .ok (.string (Z 135)) w) (hk136 : ∀ w, (Op.stringOp .add (Z 135) ({ data := #[32] } : ByteArray)).run Tryz.prog w = .ok (.string (Z 136)) w) (hk137 : ∀ w, (Op.stringOp .add (Z 136) (Z 14)).run Tryz.prog w = .ok (.string (Z 137)) w) (hk138 : ∀ w, (Op.stringOp .add (Z 137) ({ data := #[32] } : ByteArray)).run Tryz.prog w = .ok (.string (Z 138)) w) (hk139 : ∀ w, (Op.stringOp .add (Z 138) (Z 5)).run Tryz.prog w = .ok (.string (Z 139)) w) (hk140 : ∀ w, (Op.stringOp .add (Z 136) (Z 4)).run Tryz.prog w = .ok (.string (Z 140)) w) (hk141 : ∀ w, (Op.stringOp .add (Z 140) ({ data := #[32, 32] } : ByteArray)).run Tryz.prog w = .ok (.string (Z 141)) w) (hk142 : ∀ w, (Op.stringOp .add (Z 141) (Z 5)).run Tryz.prog w = .ok (.string (Z 142)) w) (hk143 : ∀ w, (Op.stringOp .add (Z 100) ({ data := #[32, 54, 53, 53, 51, 54, 32] } : ByteArray)).run Tryz.prog w = .ok (.string (Z 143)) w) (hk144 : ∀ w, (Op.stringOp .add (Z 143) (Z 3)).run Tryz.prog w = .ok (.string (Z 144)) w) (hk145 : ∀ w, (Op.stringOp .add (Z 144) ({ data := #[32] } : ByteArray)).run Tryz.prog w = .ok (.string (Z 145)) w) (hk146 : ∀ w, (Op.stringOp .add (Z 145) (Z 4)).run Tryz.prog w = .ok (.string (Z 146)) w) (hk147 : ∀ w, (Op.stringOp .add (Z 146) ({ data := #[32] } : ByteArray)).run Tryz.prog w = .ok (.string (Z 147)) w) (hk148 : ∀ w, (Op.stringOp .add (Z 147) (Z 5)).run Tryz.prog w = .ok (.string (Z 148)) w)
    (hQ : ∀ (U : Nat → Value) X g, Below W0.heap.size W0 X → X.heap[g]? = some (.cells #[.string (Z 108), .string (Z 117), .string (Z 126), .string (Z 134), .string (Z 139), .string (Z 142), .string (Z 148)] 9 (0, 0)) → Q .normal ⟨List.toArray (U 0 :: v1 :: (.pointer (some ⟨gb, 0, none⟩)) :: U 3 :: U 4 :: v5 :: U 6 :: U 7 :: (.slice AC lC cC) :: U 9 :: U 10 :: U 11 :: (.slice (some ⟨g, 0, none⟩) 7 7) :: U 13 :: U 14 :: U 15 :: U 16 :: U 17 :: U 18 :: U 19 :: U 20 :: U 21 :: U 22 :: U 23 :: U 24 :: U 25 :: U 26 :: U 27 :: U 28 :: U 29 :: U 30 :: U 31 :: U 32 :: U 33 :: U 34 :: U 35 :: U 36 :: U 37 :: U 38 :: U 39 :: U 40 :: U 41 :: U 42 :: U 43 :: U 44 :: U 45 :: U 46 :: U 47 :: U 48 :: U 49 :: U 50 :: U 51 :: U 52 :: U 53 :: U 54 :: U 55 :: U 56 :: U 57 :: U 58 :: U 59 :: U 60 :: U 61 :: U 62 :: U 63 :: U 64 :: U 65 :: U 66 :: U 67 :: U 68 :: U 69 :: U 70 :: U 71 :: U 72 :: U 73 :: U 74 :: U 75 :: U 76 :: U 77 :: U 78 :: U 79 :: U 80 :: U 81 :: U 82 :: U 83 :: U 84 :: U 85 :: U 86 :: U 87 :: U 88 :: U 89 :: U 90 :: U 91 :: U 92 :: U 93 :: U 94 :: U 95 :: U 96 :: U 97 :: U 98 :: U 99 :: U 100 :: U 101 :: U 102 :: U 103 :: U 104 :: U 105 :: U 106 :: U 107 :: U 108 :: U 109 :: U 110 :: U 111 :: U 112 :: U 113 :: U 114 :: U 115 :: U 116 :: U 117 :: U 118 :: U 119 :: U 120 :: U 121 :: U 122 :: U 123 :: U 124 :: U 125 :: U 126 :: U 127 :: U 128 :: U 129 :: U 130 :: U 131 :: U 132 :: U 133 :: U 134 :: U 135 :: U 136 :: U 137 :: U 138 :: U 139 :: U 140 :: U 141 :: U 142 :: U 143 :: U 144 :: U 145 :: U 146 :: U 147 :: U 148 :: U 149 :: U 150 :: U 151 :: U 152 :: U 153 :: U 154 :: U 155 :: U 156 :: U 157 :: U 158 :: U 159 :: U 160 :: U 161 :: U 162 :: U 163 :: U 164 :: U 165 :: U 166 :: U 167 :: U 168 :: U 169 :: U 170 :: U 171 :: U 172 :: U 173 :: U 174 :: U 175 :: U 176 :: U 177 :: U 178 :: U 179 :: U 180 :: U 181 :: U 182 :: U 183 :: U 184 :: U 185 :: U 186 :: U 187 :: U 188 :: U 189 :: U 190 :: U 191 :: U 192 :: U 193 :: U 194 :: U 195 :: U 196 :: U 197 :: U 198 :: U 199 :: U 200 :: U 201 :: U 202 :: U 203 :: U 204 :: U 205 :: U 206 :: U 207 :: U 208 :: U 209 :: U 210 :: U 211 :: U 212 :: U 213 :: U 214 :: U 215 :: U 216 :: U 217 :: U 218 :: U 219 :: U 220 :: U 221 :: U 222 :: U 223 :: U 224 :: U 225 :: U 226 :: U 227 :: U 228 :: U 229 :: U 230 :: U 231 :: U 232 :: U 233 :: U 234 :: U 235 :: U 236 :: U 237 :: U 238 :: U 239 :: U 240 :: U 241 :: U 242 :: U 243 :: U 244 :: U 245 :: U 246 :: U 247 :: U 248 :: U 249 :: U 250 :: U 251 :: U 252 :: U 253 :: U 254 :: U 255 :: U 256 :: []), []⟩ X) :
    (Code.region 13 ops13 true).wp Tryz.prog Q a W0 := by
  have hsz : 217 < a.tmps.size := by rw [hs]; decide
  refine forms_region Q a W0 gb o n nm AC lC cC Z hsz ha2 ha8 ha9 ha10 ha11 hcell hw1 hw3 hw4 HD1 HD2 HD3 HD4 HG1 HG3 HG4 hk100 hk101 hk102 hk103 hk104 hk105 hk106 hk107 hk108 hk109 hk110 hk111 hk112 hk113 hk114 hk115 hk116 hk117 hk118 hk119 hk120 hk121 hk122 hk123 hk124 hk125 hk126 hk127 hk128 hk129 hk130 hk131 hk132 hk133 hk134 hk135 hk136 hk137 hk138 hk139 hk140 hk141 hk142 hk143 hk144 hk145 hk146 hk147 hk148 (fun V X g hB hV hrow => ?_)
  have e1 := ev_out (V := V) (by kernel_rfl) ha1
  have e2 := ev_out (V := V) (by kernel_rfl) ha2
  have e5 := ev_out (V := V) (by kernel_rfl) ha5
  have e8 := ev_out (V := V) (by kernel_rfl) ha8
  have e12 := ev_in (t := 12) (j := 173) hsz (by kernel_rfl) (by kernel_rfl) hV
  rw [act_lit (acE a ds13 V) 257 (by rw [acE_size, hs]) (by rw [acE_defers, hdf])]
  obtain ⟨U, hU⟩ : ∃ U : Nat → Value, U = fun i => (acE a ds13 V).eval (.tmp i) := ⟨_, rfl⟩
  have u1 : U 1 = v1 := by rw [hU]; exact e1
  have u2 : U 2 = .pointer (some ⟨gb, 0, none⟩) := by rw [hU]; exact e2
  have u5 : U 5 = v5 := by rw [hU]; exact e5
  have u8 : U 8 = .slice AC lC cC := by rw [hU]; exact e8
  have u12 : U 12 = .slice (some ⟨g, 0, none⟩) 7 7 := by rw [hU]; exact e12
  rw [← hU]
  have hl : (List.range 257).map U = (U 0 :: U 1 :: U 2 :: U 3 :: U 4 :: U 5 :: U 6 :: U 7 :: U 8 :: U 9 :: U 10 :: U 11 :: U 12 :: U 13 :: U 14 :: U 15 :: U 16 :: U 17 :: U 18 :: U 19 :: U 20 :: U 21 :: U 22 :: U 23 :: U 24 :: U 25 :: U 26 :: U 27 :: U 28 :: U 29 :: U 30 :: U 31 :: U 32 :: U 33 :: U 34 :: U 35 :: U 36 :: U 37 :: U 38 :: U 39 :: U 40 :: U 41 :: U 42 :: U 43 :: U 44 :: U 45 :: U 46 :: U 47 :: U 48 :: U 49 :: U 50 :: U 51 :: U 52 :: U 53 :: U 54 :: U 55 :: U 56 :: U 57 :: U 58 :: U 59 :: U 60 :: U 61 :: U 62 :: U 63 :: U 64 :: U 65 :: U 66 :: U 67 :: U 68 :: U 69 :: U 70 :: U 71 :: U 72 :: U 73 :: U 74 :: U 75 :: U 76 :: U 77 :: U 78 :: U 79 :: U 80 :: U 81 :: U 82 :: U 83 :: U 84 :: U 85 :: U 86 :: U 87 :: U 88 :: U 89 :: U 90 :: U 91 :: U 92 :: U 93 :: U 94 :: U 95 :: U 96 :: U 97 :: U 98 :: U 99 :: U 100 :: U 101 :: U 102 :: U 103 :: U 104 :: U 105 :: U 106 :: U 107 :: U 108 :: U 109 :: U 110 :: U 111 :: U 112 :: U 113 :: U 114 :: U 115 :: U 116 :: U 117 :: U 118 :: U 119 :: U 120 :: U 121 :: U 122 :: U 123 :: U 124 :: U 125 :: U 126 :: U 127 :: U 128 :: U 129 :: U 130 :: U 131 :: U 132 :: U 133 :: U 134 :: U 135 :: U 136 :: U 137 :: U 138 :: U 139 :: U 140 :: U 141 :: U 142 :: U 143 :: U 144 :: U 145 :: U 146 :: U 147 :: U 148 :: U 149 :: U 150 :: U 151 :: U 152 :: U 153 :: U 154 :: U 155 :: U 156 :: U 157 :: U 158 :: U 159 :: U 160 :: U 161 :: U 162 :: U 163 :: U 164 :: U 165 :: U 166 :: U 167 :: U 168 :: U 169 :: U 170 :: U 171 :: U 172 :: U 173 :: U 174 :: U 175 :: U 176 :: U 177 :: U 178 :: U 179 :: U 180 :: U 181 :: U 182 :: U 183 :: U 184 :: U 185 :: U 186 :: U 187 :: U 188 :: U 189 :: U 190 :: U 191 :: U 192 :: U 193 :: U 194 :: U 195 :: U 196 :: U 197 :: U 198 :: U 199 :: U 200 :: U 201 :: U 202 :: U 203 :: U 204 :: U 205 :: U 206 :: U 207 :: U 208 :: U 209 :: U 210 :: U 211 :: U 212 :: U 213 :: U 214 :: U 215 :: U 216 :: U 217 :: U 218 :: U 219 :: U 220 :: U 221 :: U 222 :: U 223 :: U 224 :: U 225 :: U 226 :: U 227 :: U 228 :: U 229 :: U 230 :: U 231 :: U 232 :: U 233 :: U 234 :: U 235 :: U 236 :: U 237 :: U 238 :: U 239 :: U 240 :: U 241 :: U 242 :: U 243 :: U 244 :: U 245 :: U 246 :: U 247 :: U 248 :: U 249 :: U 250 :: U 251 :: U 252 :: U 253 :: U 254 :: U 255 :: U 256 :: []) := by kernel_rfl
  rw [hl, u1, u2, u5, u8, u12]
  exact hQ U X g hB hrow
end Go.Proofs.YtpfmnkpmidjfjaaGreatDoor
/- The seven heads of BundleForms, read. -/
namespace Go.Proofs.YtpfmnkpmidjfjaaGreatDoor
open Go.RowKit Go.Lib
set_option linter.unusedVariables false
set_option linter.unusedSimpArgs false
theorem mod7 (x : Int) : ∃ a : Nat, wrap64 ((IntKind.u64.wrap x).tmod 7) = (a : Int) ∧ a < 7 := by
  have hu : 0 ≤ IntKind.u64.wrap x := by
    have : IntKind.u64.wrap x = x % 18446744073709551616 := by simp [IntKind.wrap, IntKind.bits, IntKind.signed]
    rw [this]; omega
  obtain ⟨y, hy⟩ := Int.eq_ofNat_of_zero_le hu
  rw [hy]
  refine ⟨y % 7, ?_, Nat.mod_lt _ (by decide)⟩
  rw [show ((y : Int).tmod (7 : Int)) = ((y % 7 : Nat) : Int) from by rw [Int.tmod_eq_emod_of_nonneg (Int.natCast_nonneg _)]; simp]
  have := Nat.mod_lt y (show 0 < 7 by decide)
  generalize y % 7 = z at *
  exact IntWalk.wrap64_in _ (by omega)
theorem cell_row {w : World} {g t i : Nat} {cs : Array Value} {v : Value} (h : w.heap[g]? = some (.cells cs t (0, 0))) (hi : cs[i]? = some v) : w.cell? ⟨g, i, none⟩ = some v := by
  unfold World.cell?
  simp only [h]
  exact hi
theorem heads_none {b : B.Bundle} {C : B.Bs} (h : (B.bytes b).2 = 0) (hC : C = B.commands b.mails) (lC LS : Nat) (hl : lC = C.length) (hS : LS = B.long C) {e1 e2 e3 e4 e5 f1 f3 f4 : B.Bs} (E1 : e1 = Lib.itoa b.origin) (E2 : e2 = Lib.itoa b.number) (E3 : e3 = Lib.itoa (b.mails.length : Int)) (E4 : e4 = Lib.itoa (lC : Int)) (E5 : e5 = Lib.itoa (LS : Int)) (F1 : f1 = Lib.itoa (b.origin + 2)) (F3 : f3 = Lib.itoa ((b.mails.length : Int) + 1)) (F4 : f4 = Lib.itoa ((lC : Int) + 1)) (h1 : 0 ≤ b.origin) (h2 : b.origin ≤ 1) (h3 : 0 ≤ b.number) (h4 : b.number ≤ 65535) (h5 : b.mails.length ≤ 4) (h6 : lC ≤ 4096) :
    B.read ((((((((((([66, 85, 78, 68, 76, 69, 32] : B.Bs) ++ e1) ++ ([32, 48] : B.Bs)) ++ e2) ++ ([32] : B.Bs)) ++ e3) ++ ([32] : B.Bs)) ++ e4) ++ ([32] : B.Bs)) ++ e5) ++ [13, 10] ++ C) = (B.none0, 5) ∧
    B.read ((((((((((([98, 117, 110, 100, 108, 101, 32] : B.Bs) ++ e1) ++ ([32] : B.Bs)) ++ e2) ++ ([32] : B.Bs)) ++ e3) ++ ([32] : B.Bs)) ++ e4) ++ ([32] : B.Bs)) ++ e5) ++ [13, 10] ++ C) = (B.none0, 5) ∧
    B.read ((((((((((([66, 85, 78, 68, 76, 69, 32] : B.Bs) ++ f1) ++ ([32] : B.Bs)) ++ e2) ++ ([32] : B.Bs)) ++ e3) ++ ([32] : B.Bs)) ++ e4) ++ ([32] : B.Bs)) ++ e5) ++ [13, 10] ++ C) = (B.none0, 5) ∧
    B.read ((((((((((([66, 85, 78, 68, 76, 69, 32] : B.Bs) ++ e1) ++ ([32] : B.Bs)) ++ e2) ++ ([32] : B.Bs)) ++ f3) ++ ([32] : B.Bs)) ++ e4) ++ ([32] : B.Bs)) ++ e5) ++ [13, 10] ++ C) = (B.none0, 5) ∧
    B.read ((((((((((([66, 85, 78, 68, 76, 69, 32] : B.Bs) ++ e1) ++ ([32] : B.Bs)) ++ e2) ++ ([32] : B.Bs)) ++ e3) ++ ([32] : B.Bs)) ++ f4) ++ ([32] : B.Bs)) ++ e5) ++ [13, 10] ++ C) = (B.none0, 5) ∧
    B.read ((((((((((([66, 85, 78, 68, 76, 69, 32] : B.Bs) ++ e1) ++ ([32] : B.Bs)) ++ e2) ++ ([32] : B.Bs)) ++ e3) ++ ([32] : B.Bs)) ++ e4) ++ ([32, 32] : B.Bs)) ++ e5) ++ [13, 10] ++ C) = (B.none0, 5) ∧
    B.read ((((((((([66, 85, 78, 68, 76, 69, 32] : B.Bs) ++ e1) ++ ([32, 54, 53, 53, 51, 54, 32] : B.Bs)) ++ e3) ++ ([32] : B.Bs)) ++ e4) ++ ([32] : B.Bs)) ++ e5) ++ [13, 10] ++ C) = (B.none0, 5) := by
  have hlt := B.long_lt C
  have hat : ∀ (n : Int) (m : Nat), n = (m : Int) → m < 1000000000000000 → Lib.itoa n = Lib.decDigits m := by
    intro n m e hm
    rw [(itoa_small n (by omega) (by omega)).1, e, Int.toNat_natCast]
  rw [hat _ b.origin.toNat (by omega) (by omega)] at E1
  rw [hat _ b.number.toNat (by omega) (by omega)] at E2
  rw [hat _ b.mails.length rfl (by omega)] at E3
  rw [hat _ lC rfl (by omega)] at E4
  rw [hat _ LS rfl (by omega)] at E5
  rw [hat _ (b.origin.toNat + 2) (by omega) (by omega)] at F1
  rw [hat _ (b.mails.length + 1) (by omega) (by omega)] at F3
  rw [hat _ (lC + 1) (by omega) (by omega)] at F4
  obtain ⟨q1, q2, q3, q4, q5, q6, q7⟩ := B.forms h b.origin.toNat b.number.toNat (by omega) (by omega)
  rw [← hC, ← hl, ← hS] at q1 q2 q3 q4 q5 q6 q7
  clear h
  have d6 : Lib.decDigits 65536 = [54, 53, 53, 51, 54] := by decide +kernel
  subst E1 E2 E3 E4 E5 F1 F3 F4
  refine ⟨(congrArg B.read ?_).trans q1, (congrArg B.read ?_).trans q2, (congrArg B.read ?_).trans q3, (congrArg B.read ?_).trans q4, (congrArg B.read ?_).trans q5, (congrArg B.read ?_).trans q6, (congrArg B.read ?_).trans q7⟩ <;>
    simp only [B.line, B.wBundle, B.crlf, d6, List.map_cons, List.map_nil, List.flatMap_cons, List.flatMap_nil, List.append_assoc, List.cons_append, List.nil_append, List.append_nil]
end Go.Proofs.YtpfmnkpmidjfjaaGreatDoor
