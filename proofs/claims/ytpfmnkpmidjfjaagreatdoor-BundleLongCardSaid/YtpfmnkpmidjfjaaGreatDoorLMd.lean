/- Texts of this seat, one behind the other: the plain law, the walks. -/
import Derived.Test.YtpfmnkpmidjfjaaGreatDoorProg
import Derived.WalkKit
import Derived.WalkLawsBesides
import Derived.Outline
import Derived.LoopTactic
import Derived.Lib.Hide
import Derived.Deep.QuietTactic
import Derived.BigQuiet
import Derived.Deep.LoopGhost
import Derived.Deep.DeepCutAuto
import Derived.Deep.CutBlock
import Derived.Deep.RegionHeld3
import Derived.Deep.RegionWith
import Derived.Deep.WholeRow
import Derived.Laws.Rows
import Derived.Laws.Tables
import Derived.Laws.ResultCell
import Derived.StillTailTactics
import Derived.Deep.DeepMust
import Derived.IntWalk
import Derived.KernelRfl
import Derived.Test.YtpfmnkpmidjfjaaGreatDoorLXa
import Derived.RegionTactic
import Derived.Lib.AppendStr
import Derived.Test.YtpfmnkpmidjfjaaGreatDoorLMa
import Derived.Test.YtpfmnkpmidjfjaaGreatDoorLMb
import Derived.Test.YtpfmnkpmidjfjaaGreatDoorLMc
/- The reference's Mail and Bundle. -/
namespace Go.Proofs.YtpfmnkpmidjfjaaGreatDoor
open Go.RowKit Go.Lib
open Go.Proofs.YtpfmnkpmidjfjaaGreatDoorW.PrintWords
set_option linter.unusedVariables false
set_option linter.unusedSimpArgs false
/-- Right as a bundle's, but for what it is told with. -/
def B.rmail (m : B.Mail) : Bool := B.sole m && decide (m.body.length ≤ 4096)
theorem rmail_right (m : B.Mail) : B.right m = (B.rmail m && (!m.quiet && (m.helo.isEmpty && decide (m.tm = 0)))) := by
  unfold B.right B.rmail
  rw [Bool.and_assoc]
theorem in_any (a lo hi : Int) (w : World) : Calls Tryz.prog 45 #[.int .i64 a, .int .i64 lo, .int .i64 hi] w fun e w' => e = .returned (.bool (decide (lo ≤ a ∧ a ≤ hi))) ∧ Below w.heap.size w w' :=
  (PBundleExact.wherryref11_in.calls a lo hi _ w (in_f a lo hi)).mono (fun e w' h => ⟨h.1, h.2.below⟩)
theorem allT_take {α : Type} {l : List α} (f : α → Bool) {n : Nat} (hn : n < l.length) (d : α) (h : (l.take n).all f = true) : (l.take (n + 1)).all f = f (l.getD n d) := by
  rw [List.take_add_one, List.all_append, h, Bool.true_and, List.getElem?_eq_getElem hn, List.getD_eq_getElem?_getD, List.getElem?_eq_getElem hn]
  simp
theorem allT_false {α : Type} {l : List α} (f : α → Bool) {n : Nat} (hn : n < l.length) (d : α) (h : f (l.getD n d) = false) : l.all f = false := by
  rw [List.all_eq_false]
  exact ⟨l.getD n d, getD_mem l n hn d, by rw [h]; decide⟩
set_option maxRecDepth 100000 in
set_option maxHeartbeats 4000000 in
theorem rmail_any (m : B.Mail) (A : Option Addr) (c : Nat) (A2 : Option Addr) (c2 : Nat) (w : World) (h : Ml w m A c A2 c2) (hf : B.Fit m) :
    Calls Tryz.prog 46 #[.agg #[.bool m.frm.null, .string (str m.frm.loc), .string (str m.frm.dom), .slice A m.to.length c, .slice A2 m.body.length c2, .bool m.quiet, .string (str m.helo), .int .i64 m.tm]] w fun e w' => e = .returned (.bool (B.rmail m)) ∧ Below w.heap.size w w' := by
  obtain ⟨T, hT⟩ : ∃ T, T = B.rmail m := ⟨_, rfl⟩
  rw [← hT]
  have hT2 : T = (V.check m.frm && (decide (1 ≤ (m.to.length : Int) ∧ (m.to.length : Int) ≤ 8) && (B.body m.body && (decide (m.body.length ≤ 4096) && m.to.all (fun p => V.check p && !p.null))))) := by
    rw [hT]
    unfold B.rmail B.sole
    have e : decide (1 ≤ (m.to.length : Int) ∧ (m.to.length : Int) ≤ 8) = (decide (1 ≤ m.to.length) && decide (m.to.length ≤ 8)) := by
      rw [← Bool.decide_and]
      exact decide_eq_decide.2 (by omega)
    rw [e]
    cases V.check m.frm <;> cases decide (1 ≤ m.to.length) <;> cases decide (m.to.length ≤ 8) <;> cases B.body m.body <;> cases decide (m.body.length ≤ 4096) <;> cases m.to.all (fun p => V.check p && !p.null) <;> rfl
  obtain ⟨w0, hw0⟩ : ∃ w0, w0 = w.alloc (.cells #[.bool m.frm.null, .string (str m.frm.loc), .string (str m.frm.dom), .slice A m.to.length c, .slice A2 m.body.length c2, .bool m.quiet, .string (str m.helo), .int .i64 m.tm] 46) := ⟨_, rfl⟩
  have HWB := Aside0.mk (show Below w.heap.size w w0 by rw [hw0]; exact (Below.refl _ _).alloc (Nat.le_refl _) _)
  have HR := Aside0.mk (show w0.heap[w.heap.size]? = some (.cells #[.bool m.frm.null, .string (str m.frm.loc), .string (str m.frm.dom), .slice A m.to.length c, .slice A2 m.body.length c2, .bool m.quiet, .string (str m.helo), .int .i64 m.tm] 46 (0, 0)) by rw [hw0]; exact heap_alloc_new _ _)
  have HW0 := Aside0.mk hw0
  have HW := Aside0.mk (Below.refl w0.heap.size w0)
  have HM := Aside0.mk (h.on HWB.out)
  have HF := Aside0.mk hf
  have hp : ∀ W, Below w0.heap.size w0 W → Calls Tryz.prog 74 #[.agg #[.bool m.frm.null, .string (str m.frm.loc), .string (str m.frm.dom)]] W fun e w' => e = .returned (.bool (V.check m.frm)) ∧ Below W.heap.size W w' := fun W hW => rpath_any m.frm W hf.frm
  have hi : ∀ W, Below w0.heap.size w0 W → Calls Tryz.prog 45 #[.int .i64 (m.to.length : Int), .int .i64 1, .int .i64 8] W fun e w' => e = .returned (.bool (decide (1 ≤ (m.to.length : Int) ∧ (m.to.length : Int) ≤ 8))) ∧ Below W.heap.size W w' := fun W hW => in_any _ _ _ W
  have hbd : ∀ W, Below w0.heap.size w0 W → Calls Tryz.prog 75 #[.slice A2 m.body.length c2] W fun e w' => e = .returned (.bool (B.body m.body)) ∧ Below W.heap.size W w' := fun W hW => rbody_any (HM.out.body.on hW) (by have := hf.body; omega)
  have hbl := hf.body
  generalize hC1 : V.check m.frm = C1 at hT2 hp
  generalize hC2 : decide (1 ≤ (m.to.length : Int) ∧ (m.to.length : Int) ≤ 8) = C2 at hT2 hi
  generalize hC3 : B.body m.body = C3 at hT2 hbd
  have HP := Aside0.mk hp
  have HI := Aside0.mk hi
  have HBD := Aside0.mk hbd
  clear hp hi hbd hT h hf hw0
  rcases and5b C1 C2 C3 (decide (m.body.length ≤ 4096)) true with h5 | ⟨h5, h6⟩ | ⟨h5, h6, h7⟩ | ⟨h5, h6, h7, h8⟩ | ⟨h5, h6, h7, h8⟩
  · subst h5
    have HT := Aside0.mk (show T = false by rw [hT2]; rfl)
    clear hT2 hC1 hC2 hC3
    go_enter Tryz.func46, Tryz.ntmps46
    go_upto_region 1 with (fail)
    rw [← HW0.out]
    obtain ⟨⟨d0, d1, d2, d3, d4, d5, d6, d7⟩, y0, y1, y2, y3, y4, y5, y6, y7⟩ := cells8 HR.out
    go_wp2_with (first | (go_at_call 74; (with_reducible refine Calls.mono (HP.out _ HW.out) ?_); rintro e wq ⟨rfl, h⟩; have hwN := (HW.out.trans (h.mono HW.out.size) : Below w0.heap.size w0 wq); clear HW h; have HW := Aside0.mk hwN; (try clear d0 d1 d2 d3 d4 d5 d6 d7 y0 y1 y2 y3 y4 y5 y6 y7); obtain ⟨⟨d0, d1, d2, d3, d4, d5, d6, d7⟩, y0, y1, y2, y3, y4, y5, y6, y7⟩ := cells8 (row_on hwN HR.out); clear hwN) | (go_at_call 45; (with_reducible refine Calls.mono (HI.out _ HW.out) ?_); rintro e wq ⟨rfl, h⟩; have hwN := (HW.out.trans (h.mono HW.out.size) : Below w0.heap.size w0 wq); clear HW h; have HW := Aside0.mk hwN; (try clear d0 d1 d2 d3 d4 d5 d6 d7 y0 y1 y2 y3 y4 y5 y6 y7); obtain ⟨⟨d0, d1, d2, d3, d4, d5, d6, d7⟩, y0, y1, y2, y3, y4, y5, y6, y7⟩ := cells8 (row_on hwN HR.out); clear hwN) | (go_at_call 75; (with_reducible refine Calls.mono (HBD.out _ HW.out) ?_); rintro e wq ⟨rfl, h⟩; have hwN := (HW.out.trans (h.mono HW.out.size) : Below w0.heap.size w0 wq); clear HW h; have HW := Aside0.mk hwN; (try clear d0 d1 d2 d3 d4 d5 d6 d7 y0 y1 y2 y3 y4 y5 y6 y7); obtain ⟨⟨d0, d1, d2, d3, d4, d5, d6, d7⟩, y0, y1, y2, y3, y4, y5, y6, y7⟩ := cells8 (row_on hwN HR.out); clear hwN))
    go_ret
    exact ⟨by rw [HT.out]; rfl, HWB.out.trans (HW.out.mono HWB.out.size)⟩
  · subst h5; subst h6
    have HT := Aside0.mk (show T = false by rw [hT2]; rfl)
    clear hT2 hC1 hC2 hC3
    go_enter Tryz.func46, Tryz.ntmps46
    go_upto_region 1 with (fail)
    rw [← HW0.out]
    obtain ⟨⟨d0, d1, d2, d3, d4, d5, d6, d7⟩, y0, y1, y2, y3, y4, y5, y6, y7⟩ := cells8 HR.out
    go_wp2_with (first | (go_at_call 74; (with_reducible refine Calls.mono (HP.out _ HW.out) ?_); rintro e wq ⟨rfl, h⟩; have hwN := (HW.out.trans (h.mono HW.out.size) : Below w0.heap.size w0 wq); clear HW h; have HW := Aside0.mk hwN; (try clear d0 d1 d2 d3 d4 d5 d6 d7 y0 y1 y2 y3 y4 y5 y6 y7); obtain ⟨⟨d0, d1, d2, d3, d4, d5, d6, d7⟩, y0, y1, y2, y3, y4, y5, y6, y7⟩ := cells8 (row_on hwN HR.out); clear hwN) | (go_at_call 45; (with_reducible refine Calls.mono (HI.out _ HW.out) ?_); rintro e wq ⟨rfl, h⟩; have hwN := (HW.out.trans (h.mono HW.out.size) : Below w0.heap.size w0 wq); clear HW h; have HW := Aside0.mk hwN; (try clear d0 d1 d2 d3 d4 d5 d6 d7 y0 y1 y2 y3 y4 y5 y6 y7); obtain ⟨⟨d0, d1, d2, d3, d4, d5, d6, d7⟩, y0, y1, y2, y3, y4, y5, y6, y7⟩ := cells8 (row_on hwN HR.out); clear hwN) | (go_at_call 75; (with_reducible refine Calls.mono (HBD.out _ HW.out) ?_); rintro e wq ⟨rfl, h⟩; have hwN := (HW.out.trans (h.mono HW.out.size) : Below w0.heap.size w0 wq); clear HW h; have HW := Aside0.mk hwN; (try clear d0 d1 d2 d3 d4 d5 d6 d7 y0 y1 y2 y3 y4 y5 y6 y7); obtain ⟨⟨d0, d1, d2, d3, d4, d5, d6, d7⟩, y0, y1, y2, y3, y4, y5, y6, y7⟩ := cells8 (row_on hwN HR.out); clear hwN))
    go_ret
    exact ⟨by rw [HT.out]; rfl, HWB.out.trans (HW.out.mono HWB.out.size)⟩
  · subst h5; subst h6; subst h7
    have HT := Aside0.mk (show T = false by rw [hT2]; rfl)
    clear hT2 hC1 hC2 hC3
    go_enter Tryz.func46, Tryz.ntmps46
    go_upto_region 1 with (fail)
    rw [← HW0.out]
    obtain ⟨⟨d0, d1, d2, d3, d4, d5, d6, d7⟩, y0, y1, y2, y3, y4, y5, y6, y7⟩ := cells8 HR.out
    go_wp2_with (first | (go_at_call 74; (with_reducible refine Calls.mono (HP.out _ HW.out) ?_); rintro e wq ⟨rfl, h⟩; have hwN := (HW.out.trans (h.mono HW.out.size) : Below w0.heap.size w0 wq); clear HW h; have HW := Aside0.mk hwN; (try clear d0 d1 d2 d3 d4 d5 d6 d7 y0 y1 y2 y3 y4 y5 y6 y7); obtain ⟨⟨d0, d1, d2, d3, d4, d5, d6, d7⟩, y0, y1, y2, y3, y4, y5, y6, y7⟩ := cells8 (row_on hwN HR.out); clear hwN) | (go_at_call 45; (with_reducible refine Calls.mono (HI.out _ HW.out) ?_); rintro e wq ⟨rfl, h⟩; have hwN := (HW.out.trans (h.mono HW.out.size) : Below w0.heap.size w0 wq); clear HW h; have HW := Aside0.mk hwN; (try clear d0 d1 d2 d3 d4 d5 d6 d7 y0 y1 y2 y3 y4 y5 y6 y7); obtain ⟨⟨d0, d1, d2, d3, d4, d5, d6, d7⟩, y0, y1, y2, y3, y4, y5, y6, y7⟩ := cells8 (row_on hwN HR.out); clear hwN) | (go_at_call 75; (with_reducible refine Calls.mono (HBD.out _ HW.out) ?_); rintro e wq ⟨rfl, h⟩; have hwN := (HW.out.trans (h.mono HW.out.size) : Below w0.heap.size w0 wq); clear HW h; have HW := Aside0.mk hwN; (try clear d0 d1 d2 d3 d4 d5 d6 d7 y0 y1 y2 y3 y4 y5 y6 y7); obtain ⟨⟨d0, d1, d2, d3, d4, d5, d6, d7⟩, y0, y1, y2, y3, y4, y5, y6, y7⟩ := cells8 (row_on hwN HR.out); clear hwN))
    go_ret
    exact ⟨by rw [HT.out]; rfl, HWB.out.trans (HW.out.mono HWB.out.size)⟩
  · subst h5; subst h6; subst h7
    have h8i : 4096 < (m.body.length : Int) := by have := of_decide_eq_false h8; omega
    have HT := Aside0.mk (show T = false by rw [hT2, h8]; rfl)
    clear hT2 hC1 hC2 hC3
    go_enter Tryz.func46, Tryz.ntmps46
    go_upto_region 1 with (fail)
    rw [← HW0.out]
    obtain ⟨⟨d0, d1, d2, d3, d4, d5, d6, d7⟩, y0, y1, y2, y3, y4, y5, y6, y7⟩ := cells8 HR.out
    go_wp2_with (first | (go_at_call 74; (with_reducible refine Calls.mono (HP.out _ HW.out) ?_); rintro e wq ⟨rfl, h⟩; have hwN := (HW.out.trans (h.mono HW.out.size) : Below w0.heap.size w0 wq); clear HW h; have HW := Aside0.mk hwN; (try clear d0 d1 d2 d3 d4 d5 d6 d7 y0 y1 y2 y3 y4 y5 y6 y7); obtain ⟨⟨d0, d1, d2, d3, d4, d5, d6, d7⟩, y0, y1, y2, y3, y4, y5, y6, y7⟩ := cells8 (row_on hwN HR.out); clear hwN) | (go_at_call 45; (with_reducible refine Calls.mono (HI.out _ HW.out) ?_); rintro e wq ⟨rfl, h⟩; have hwN := (HW.out.trans (h.mono HW.out.size) : Below w0.heap.size w0 wq); clear HW h; have HW := Aside0.mk hwN; (try clear d0 d1 d2 d3 d4 d5 d6 d7 y0 y1 y2 y3 y4 y5 y6 y7); obtain ⟨⟨d0, d1, d2, d3, d4, d5, d6, d7⟩, y0, y1, y2, y3, y4, y5, y6, y7⟩ := cells8 (row_on hwN HR.out); clear hwN) | (go_at_call 75; (with_reducible refine Calls.mono (HBD.out _ HW.out) ?_); rintro e wq ⟨rfl, h⟩; have hwN := (HW.out.trans (h.mono HW.out.size) : Below w0.heap.size w0 wq); clear HW h; have HW := Aside0.mk hwN; (try clear d0 d1 d2 d3 d4 d5 d6 d7 y0 y1 y2 y3 y4 y5 y6 y7); obtain ⟨⟨d0, d1, d2, d3, d4, d5, d6, d7⟩, y0, y1, y2, y3, y4, y5, y6, y7⟩ := cells8 (row_on hwN HR.out); clear hwN))
    go_ret
    exact ⟨by rw [HT.out]; rfl, HWB.out.trans (HW.out.mono HWB.out.size)⟩
  · subst h5; subst h6; subst h7
    have h8i : (m.body.length : Int) ≤ 4096 := by have := of_decide_eq_true h8; omega
    have hl8 : m.to.length ≤ 8 := by have := of_decide_eq_true hC2; omega
    have HT := Aside0.mk (show T = m.to.all (fun p => V.check p && !p.null) by rw [hT2, h8]; rfl)
    clear hT2 hC1 hC2 hC3 h8
    go_enter Tryz.func46, Tryz.ntmps46
    go_upto_region 1 with (fail)
    rw [← HW0.out]
    obtain ⟨⟨d0, d1, d2, d3, d4, d5, d6, d7⟩, y0, y1, y2, y3, y4, y5, y6, y7⟩ := cells8 HR.out
    go_wp2_with (first | (go_at_call 74; (with_reducible refine Calls.mono (HP.out _ HW.out) ?_); rintro e wq ⟨rfl, h⟩; have hwN := (HW.out.trans (h.mono HW.out.size) : Below w0.heap.size w0 wq); clear HW h; have HW := Aside0.mk hwN; (try clear d0 d1 d2 d3 d4 d5 d6 d7 y0 y1 y2 y3 y4 y5 y6 y7); obtain ⟨⟨d0, d1, d2, d3, d4, d5, d6, d7⟩, y0, y1, y2, y3, y4, y5, y6, y7⟩ := cells8 (row_on hwN HR.out); clear hwN) | (go_at_call 45; (with_reducible refine Calls.mono (HI.out _ HW.out) ?_); rintro e wq ⟨rfl, h⟩; have hwN := (HW.out.trans (h.mono HW.out.size) : Below w0.heap.size w0 wq); clear HW h; have HW := Aside0.mk hwN; (try clear d0 d1 d2 d3 d4 d5 d6 d7 y0 y1 y2 y3 y4 y5 y6 y7); obtain ⟨⟨d0, d1, d2, d3, d4, d5, d6, d7⟩, y0, y1, y2, y3, y4, y5, y6, y7⟩ := cells8 (row_on hwN HR.out); clear hwN) | (go_at_call 75; (with_reducible refine Calls.mono (HBD.out _ HW.out) ?_); rintro e wq ⟨rfl, h⟩; have hwN := (HW.out.trans (h.mono HW.out.size) : Below w0.heap.size w0 wq); clear HW h; have HW := Aside0.mk hwN; (try clear d0 d1 d2 d3 d4 d5 d6 d7 y0 y1 y2 y3 y4 y5 y6 y7); obtain ⟨⟨d0, d1, d2, d3, d4, d5, d6, d7⟩, y0, y1, y2, y3, y4, y5, y6, y7⟩ := cells8 (row_on hwN HR.out); clear hwN))
    obtain ⟨wa, rfl⟩ : ∃ wz : World, wz = wq := ⟨_, rfl⟩
    have HRa := Aside0.mk (row_on HW.out HR.out)
    have HWa := Aside0.mk (HWB.out.trans (HW.out.mono HWB.out.size))
    have HCa := Aside0.mk (Kd.C_below HM.out.tos HW.out)
    clear HW d0 d1 d2 d3 d4 d5 d6 d7 y0 y1 y2 y3 y4 y5 y6 y7
    go_loopg [3] m.to.length (fun gf v3 wr => ∃ (n : Nat), v3 = .int .i64 n ∧ n ≤ m.to.length ∧ gf + n = m.to.length ∧ Aside0 ((m.to.take n).all (fun p => V.check p && !p.null) = true ∧ Below wa.heap.size wa wr))
    case atStart => exact ⟨0, rfl, by omega, by omega, ⟨rfl, Below.refl _ _⟩⟩
    case round =>
      obtain ⟨n, rfl, hn2, hg, H⟩ := hrel
      obtain ⟨wx, rfl⟩ : ∃ wz : World, wz = wr := ⟨_, rfl⟩
      have HRx := Aside0.mk (row_on H.out.2 HRa.out)
      obtain ⟨⟨d0, d1, d2, d3, d4, d5, d6, d7⟩, y0, y1, y2, y3, y4, y5, y6, y7⟩ := cells8 HRx.out
      have HW := Aside0.mk (Below.refl wx.heap.size wx)
      by_cases hlt : n < m.to.length
      · obtain ⟨p, hpx⟩ : ∃ p, p = m.to.getD n V.noPath := ⟨_, rfl⟩
        obtain ⟨ad, rfl, q0, q1, q2⟩ := path_at HCa.out n hlt p hpx
        have hlt' : (n : Int) < (m.to.length : Int) := by omega
        have h0 : (0 : Int) ≤ (n : Int) := by omega
        have hfp : B.fitP p := HF.out.tos _ (by rw [hpx]; exact getD_mem m.to n hlt _)
        have e0 := cell_up H.out.2 q0
        have e1 := cell_up H.out.2 q1
        have e2 := cell_up H.out.2 q2
        have hpp := rpath_any p wx hfp
        have hall := allT_take (fun p => V.check p && !p.null) hlt V.noPath H.out.1
        have hno := allT_false (l := m.to) (fun p => V.check p && !p.null) hlt V.noPath
        rw [← hpx] at hall hno
        cases hc : V.check p with
        | false =>
          rw [hc] at hpp hno
          have HPP := Aside0.mk hpp
          have HTF := Aside0.mk (HT.out.trans (hno rfl))
          clear hpp hc hfp q0 q1 q2 hpx hlt hall hno
          go_wp2_with (first | (go_at_call 74; (with_reducible refine Calls.mono (HPP.out) ?_); rintro e wq ⟨rfl, h⟩; have hwN := (HW.out.trans (h.mono HW.out.size) : Below wx.heap.size wx wq); clear HW h; have HW := Aside0.mk hwN; (try clear d0 d1 d2 d3 d4 d5 d6 d7 y0 y1 y2 y3 y4 y5 y6 y7); obtain ⟨⟨d0, d1, d2, d3, d4, d5, d6, d7⟩, y0, y1, y2, y3, y4, y5, y6, y7⟩ := cells8 (row_on hwN HRx.out); clear hwN))
          go_ret
          exact ⟨by rw [HTF.out]; rfl, HWa.out.trans ((H.out.2.trans (HW.out.mono H.out.2.size)).mono HWa.out.size)⟩
        | true =>
          cases hnl : p.null with
          | true =>
            rw [hc, hnl] at hno
            rw [hc, hnl] at hpp
            rw [hnl] at e0
            have HPP := Aside0.mk hpp
            have HTF := Aside0.mk (HT.out.trans (hno rfl))
            have HE0 := Aside0.mk e0
            clear hpp hc hfp q0 q1 q2 hpx hlt hall hno hnl
            go_wp2_with (first | (go_at_call 74; (with_reducible refine Calls.mono (HPP.out) ?_); rintro e wq ⟨rfl, h⟩; have hwN := (HW.out.trans (h.mono HW.out.size) : Below wx.heap.size wx wq); clear HW h; have HW := Aside0.mk hwN; (try clear d0 d1 d2 d3 d4 d5 d6 d7 y0 y1 y2 y3 y4 y5 y6 y7); obtain ⟨⟨d0, d1, d2, d3, d4, d5, d6, d7⟩, y0, y1, y2, y3, y4, y5, y6, y7⟩ := cells8 (row_on hwN HRx.out); (try clear e0); have e0 := cell_up hwN HE0.out; clear hwN))
            go_ret
            exact ⟨by rw [HTF.out]; rfl, HWa.out.trans ((H.out.2.trans (HW.out.mono H.out.2.size)).mono HWa.out.size)⟩
          | false =>
            rw [hc, hnl] at hall
            rw [hc, hnl] at hpp
            rw [hnl] at e0
            have HPP := Aside0.mk hpp
            have HALL := Aside0.mk hall
            have HE0 := Aside0.mk e0
            clear hpp hc hfp q0 q1 q2 hpx hlt hall hno hnl
            go_wp2_with (first | (go_at_call 74; (with_reducible refine Calls.mono (HPP.out) ?_); rintro e wq ⟨rfl, h⟩; have hwN := (HW.out.trans (h.mono HW.out.size) : Below wx.heap.size wx wq); clear HW h; have HW := Aside0.mk hwN; (try clear d0 d1 d2 d3 d4 d5 d6 d7 y0 y1 y2 y3 y4 y5 y6 y7); obtain ⟨⟨d0, d1, d2, d3, d4, d5, d6, d7⟩, y0, y1, y2, y3, y4, y5, y6, y7⟩ := cells8 (row_on hwN HRx.out); (try clear e0); have e0 := cell_up hwN HE0.out; clear hwN))
            go_roundg (gk - 1)
            case measure => omega
            case rel => exact ⟨n + 1, by go_num, by omega, by omega, ⟨HALL.out, H.out.2.trans (HW.out.mono H.out.2.size)⟩⟩
      · have hne : n = m.to.length := by omega
        have t1 : decide ((n : Int) < (m.to.length : Int)) = false := by simp; omega
        have t2 : decide (n < m.to.length) = false := by simp; omega
        have HTT := Aside0.mk (show T = true by
          have := H.out.1
          rw [hne, List.take_length] at this
          rw [HT.out, this])
        clear hne hlt
        go_wp2_with (fail)
        go_ret
        exact ⟨by rw [HTT.out]; rfl, HWa.out.trans (H.out.2.mono HWa.out.size)⟩
set_option maxRecDepth 100000 in
set_option maxHeartbeats 4000000 in
theorem rbundle_any (b : B.Bundle) (A : Option Addr) (c : Nat) (w : World) (h : Bn w b A c) (hf : B.FitB b) :
    Calls Tryz.prog 20 #[.agg #[.int .i64 b.origin, .int .i64 b.number, .slice A b.mails.length c]] w fun e w' => e = .returned (.bool (B.check b)) ∧ Below w.heap.size w w' := by
  obtain ⟨T, hT⟩ : ∃ T, T = B.check b := ⟨_, rfl⟩
  rw [← hT]
  have hT2 : T = (decide (0 ≤ b.origin ∧ b.origin ≤ 1) && (decide (1 ≤ b.number ∧ b.number ≤ 65535) && (decide (1 ≤ (b.mails.length : Int) ∧ (b.mails.length : Int) ≤ 4) && b.mails.all B.right))) := by
    rw [hT]
    unfold B.check
    have e1 : decide (0 ≤ b.origin ∧ b.origin ≤ 1) = (decide (0 ≤ b.origin) && decide (b.origin ≤ 1)) := Bool.decide_and _ _
    have e2 : decide (1 ≤ b.number ∧ b.number ≤ 65535) = (decide (1 ≤ b.number) && decide (b.number ≤ 65535)) := Bool.decide_and _ _
    have e3 : decide (1 ≤ (b.mails.length : Int) ∧ (b.mails.length : Int) ≤ 4) = (decide (1 ≤ b.mails.length) && decide (b.mails.length ≤ 4)) := by
      rw [← Bool.decide_and]
      exact decide_eq_decide.2 (by omega)
    rw [e1, e2, e3]
    simp only [Bool.and_assoc]
  obtain ⟨w0, hw0⟩ : ∃ w0, w0 = w.alloc (.cells #[.int .i64 b.origin, .int .i64 b.number, .slice A b.mails.length c] 24) := ⟨_, rfl⟩
  have HWB := Aside0.mk (show Below w.heap.size w w0 by rw [hw0]; exact (Below.refl _ _).alloc (Nat.le_refl _) _)
  have HR := Aside0.mk (show w0.heap[w.heap.size]? = some (.cells #[.int .i64 b.origin, .int .i64 b.number, .slice A b.mails.length c] 24 (0, 0)) by rw [hw0]; exact heap_alloc_new _ _)
  have HW0 := Aside0.mk hw0
  have HW := Aside0.mk (Below.refl w0.heap.size w0)
  have HB := Aside0.mk (h.on HWB.out)
  have HF := Aside0.mk hf
  have hi1 : ∀ W, Calls Tryz.prog 45 #[.int .i64 b.origin, .int .i64 0, .int .i64 1] W fun e w' => e = .returned (.bool (decide (0 ≤ b.origin ∧ b.origin ≤ 1))) ∧ Below W.heap.size W w' := fun W => in_any _ _ _ W
  have hi2 : ∀ W, Calls Tryz.prog 45 #[.int .i64 b.number, .int .i64 1, .int .i64 65535] W fun e w' => e = .returned (.bool (decide (1 ≤ b.number ∧ b.number ≤ 65535))) ∧ Below W.heap.size W w' := fun W => in_any _ _ _ W
  have hi3 : ∀ W, Calls Tryz.prog 45 #[.int .i64 (b.mails.length : Int), .int .i64 1, .int .i64 4] W fun e w' => e = .returned (.bool (decide (1 ≤ (b.mails.length : Int) ∧ (b.mails.length : Int) ≤ 4))) ∧ Below W.heap.size W w' := fun W => in_any _ _ _ W
  generalize hC1 : decide (0 ≤ b.origin ∧ b.origin ≤ 1) = C1 at hT2 hi1
  generalize hC2 : decide (1 ≤ b.number ∧ b.number ≤ 65535) = C2 at hT2 hi2
  generalize hC3 : decide (1 ≤ (b.mails.length : Int) ∧ (b.mails.length : Int) ≤ 4) = C3 at hT2 hi3
  have HI1 := Aside0.mk hi1
  have HI2 := Aside0.mk hi2
  have HI3 := Aside0.mk hi3
  clear hi1 hi2 hi3 hT h hf hw0
  rcases and5b C1 C2 C3 true true with h5 | ⟨h5, h6⟩ | ⟨h5, h6, h7⟩ | ⟨h5, h6, h7, h8⟩ | ⟨h5, h6, h7, h8⟩
  · subst h5
    have HT := Aside0.mk (show T = false by rw [hT2]; rfl)
    clear hT2 hC1 hC2 hC3
    go_enter Tryz.func20, Tryz.ntmps20
    go_upto_region 1 with (fail)
    rw [← HW0.out]
    obtain ⟨b0, b1, b2, g0, g1, g2⟩ := cells3 HR.out
    go_wp2_with (first | (go_at_call 45; (with_reducible refine Calls.mono (HI1.out _) ?_); rintro e wq ⟨rfl, h⟩; have hwN := (HW.out.trans (h.mono HW.out.size) : Below w0.heap.size w0 wq); clear HW h; have HW := Aside0.mk hwN; (try clear b0 b1 b2 g0 g1 g2); obtain ⟨b0, b1, b2, g0, g1, g2⟩ := cells3 (row_on hwN HR.out); clear hwN) | (go_at_call 45; (with_reducible refine Calls.mono (HI2.out _) ?_); rintro e wq ⟨rfl, h⟩; have hwN := (HW.out.trans (h.mono HW.out.size) : Below w0.heap.size w0 wq); clear HW h; have HW := Aside0.mk hwN; (try clear b0 b1 b2 g0 g1 g2); obtain ⟨b0, b1, b2, g0, g1, g2⟩ := cells3 (row_on hwN HR.out); clear hwN) | (go_at_call 45; (with_reducible refine Calls.mono (HI3.out _) ?_); rintro e wq ⟨rfl, h⟩; have hwN := (HW.out.trans (h.mono HW.out.size) : Below w0.heap.size w0 wq); clear HW h; have HW := Aside0.mk hwN; (try clear b0 b1 b2 g0 g1 g2); obtain ⟨b0, b1, b2, g0, g1, g2⟩ := cells3 (row_on hwN HR.out); clear hwN))
    go_ret
    exact ⟨by rw [HT.out]; rfl, HWB.out.trans (HW.out.mono HWB.out.size)⟩
  · subst h5; subst h6
    have HT := Aside0.mk (show T = false by rw [hT2]; rfl)
    clear hT2 hC1 hC2 hC3
    go_enter Tryz.func20, Tryz.ntmps20
    go_upto_region 1 with (fail)
    rw [← HW0.out]
    obtain ⟨b0, b1, b2, g0, g1, g2⟩ := cells3 HR.out
    go_wp2_with (first | (go_at_call 45; (with_reducible refine Calls.mono (HI1.out _) ?_); rintro e wq ⟨rfl, h⟩; have hwN := (HW.out.trans (h.mono HW.out.size) : Below w0.heap.size w0 wq); clear HW h; have HW := Aside0.mk hwN; (try clear b0 b1 b2 g0 g1 g2); obtain ⟨b0, b1, b2, g0, g1, g2⟩ := cells3 (row_on hwN HR.out); clear hwN) | (go_at_call 45; (with_reducible refine Calls.mono (HI2.out _) ?_); rintro e wq ⟨rfl, h⟩; have hwN := (HW.out.trans (h.mono HW.out.size) : Below w0.heap.size w0 wq); clear HW h; have HW := Aside0.mk hwN; (try clear b0 b1 b2 g0 g1 g2); obtain ⟨b0, b1, b2, g0, g1, g2⟩ := cells3 (row_on hwN HR.out); clear hwN) | (go_at_call 45; (with_reducible refine Calls.mono (HI3.out _) ?_); rintro e wq ⟨rfl, h⟩; have hwN := (HW.out.trans (h.mono HW.out.size) : Below w0.heap.size w0 wq); clear HW h; have HW := Aside0.mk hwN; (try clear b0 b1 b2 g0 g1 g2); obtain ⟨b0, b1, b2, g0, g1, g2⟩ := cells3 (row_on hwN HR.out); clear hwN))
    go_ret
    exact ⟨by rw [HT.out]; rfl, HWB.out.trans (HW.out.mono HWB.out.size)⟩
  · subst h5; subst h6; subst h7
    have HT := Aside0.mk (show T = false by rw [hT2]; rfl)
    clear hT2 hC1 hC2 hC3
    go_enter Tryz.func20, Tryz.ntmps20
    go_upto_region 1 with (fail)
    rw [← HW0.out]
    obtain ⟨b0, b1, b2, g0, g1, g2⟩ := cells3 HR.out
    go_wp2_with (first | (go_at_call 45; (with_reducible refine Calls.mono (HI1.out _) ?_); rintro e wq ⟨rfl, h⟩; have hwN := (HW.out.trans (h.mono HW.out.size) : Below w0.heap.size w0 wq); clear HW h; have HW := Aside0.mk hwN; (try clear b0 b1 b2 g0 g1 g2); obtain ⟨b0, b1, b2, g0, g1, g2⟩ := cells3 (row_on hwN HR.out); clear hwN) | (go_at_call 45; (with_reducible refine Calls.mono (HI2.out _) ?_); rintro e wq ⟨rfl, h⟩; have hwN := (HW.out.trans (h.mono HW.out.size) : Below w0.heap.size w0 wq); clear HW h; have HW := Aside0.mk hwN; (try clear b0 b1 b2 g0 g1 g2); obtain ⟨b0, b1, b2, g0, g1, g2⟩ := cells3 (row_on hwN HR.out); clear hwN) | (go_at_call 45; (with_reducible refine Calls.mono (HI3.out _) ?_); rintro e wq ⟨rfl, h⟩; have hwN := (HW.out.trans (h.mono HW.out.size) : Below w0.heap.size w0 wq); clear HW h; have HW := Aside0.mk hwN; (try clear b0 b1 b2 g0 g1 g2); obtain ⟨b0, b1, b2, g0, g1, g2⟩ := cells3 (row_on hwN HR.out); clear hwN))
    go_ret
    exact ⟨by rw [HT.out]; rfl, HWB.out.trans (HW.out.mono HWB.out.size)⟩
  · cases h8
  · subst h5; subst h6; subst h7
    have HT := Aside0.mk (show T = b.mails.all B.right by rw [hT2]; rfl)
    have hl4 : b.mails.length ≤ 4 := by have := of_decide_eq_true hC3; omega
    clear hT2 hC1 hC2 hC3 h8
    go_enter Tryz.func20, Tryz.ntmps20
    go_upto_region 1 with (fail)
    rw [← HW0.out]
    obtain ⟨b0, b1, b2, g0, g1, g2⟩ := cells3 HR.out
    go_wp2_with (first | (go_at_call 45; (with_reducible refine Calls.mono (HI1.out _) ?_); rintro e wq ⟨rfl, h⟩; have hwN := (HW.out.trans (h.mono HW.out.size) : Below w0.heap.size w0 wq); clear HW h; have HW := Aside0.mk hwN; (try clear b0 b1 b2 g0 g1 g2); obtain ⟨b0, b1, b2, g0, g1, g2⟩ := cells3 (row_on hwN HR.out); clear hwN) | (go_at_call 45; (with_reducible refine Calls.mono (HI2.out _) ?_); rintro e wq ⟨rfl, h⟩; have hwN := (HW.out.trans (h.mono HW.out.size) : Below w0.heap.size w0 wq); clear HW h; have HW := Aside0.mk hwN; (try clear b0 b1 b2 g0 g1 g2); obtain ⟨b0, b1, b2, g0, g1, g2⟩ := cells3 (row_on hwN HR.out); clear hwN) | (go_at_call 45; (with_reducible refine Calls.mono (HI3.out _) ?_); rintro e wq ⟨rfl, h⟩; have hwN := (HW.out.trans (h.mono HW.out.size) : Below w0.heap.size w0 wq); clear HW h; have HW := Aside0.mk hwN; (try clear b0 b1 b2 g0 g1 g2); obtain ⟨b0, b1, b2, g0, g1, g2⟩ := cells3 (row_on hwN HR.out); clear hwN))
    obtain ⟨wa, rfl⟩ : ∃ wz : World, wz = wq := ⟨_, rfl⟩
    have HRa := Aside0.mk (row_on HW.out HR.out)
    have HWa := Aside0.mk (HWB.out.trans (HW.out.mono HWB.out.size))
    have HBa := Aside0.mk (HB.out.on HW.out)
    clear HW b0 b1 b2 g0 g1 g2
    go_loopg [3] b.mails.length (fun gf v3 wr => ∃ (n : Nat), v3 = .int .i64 n ∧ n ≤ b.mails.length ∧ gf + n = b.mails.length ∧ Aside0 ((b.mails.take n).all B.right = true ∧ Below wa.heap.size wa wr))
    case atStart => exact ⟨0, rfl, by omega, by omega, ⟨rfl, Below.refl _ _⟩⟩
    case round =>
      obtain ⟨n, rfl, hn2, hg, H⟩ := hrel
      obtain ⟨wx, rfl⟩ : ∃ wz : World, wz = wr := ⟨_, rfl⟩
      have HRx := Aside0.mk (row_on H.out.2 HRa.out)
      obtain ⟨b0, b1, b2, g0, g1, g2⟩ := cells3 HRx.out
      by_cases hlt : n < b.mails.length
      · obtain ⟨x, hx⟩ : ∃ x, x = b.mails.getD n B.noMail := ⟨_, rfl⟩
        obtain ⟨ad, A1, c1, A3, c3, rfl, hm, hl⟩ := mail_at HBa.out.rd n hlt x hx
        obtain ⟨q0, q1, q2, q3, q4, q5, q6, q7⟩ := hm.on H.out.2
        have hlt' : (n : Int) < (b.mails.length : Int) := by omega
        have h0 : (0 : Int) ≤ (n : Int) := by omega
        have hfx : B.Fit x := HF.out.ms _ (by rw [hx]; exact getD_mem b.mails n hlt _)
        have hall := allT_take B.right hlt B.noMail H.out.1
        have hno := allT_false (l := b.mails) B.right hlt B.noMail
        rw [← hx] at hall hno
        have HML := Aside0.mk (hl.on H.out.2)
        have HFX := Aside0.mk hfx
        clear hx hm hl hfx
        go_upto_region 7 with (fail)
        obtain ⟨wy, hwy⟩ : ∃ wy, wy = wx.alloc (.cells #[.bool x.frm.null, .string (str x.frm.loc), .string (str x.frm.dom), .slice A1 x.to.length c1, .slice A3 x.body.length c3, .bool x.quiet, .string (str x.helo), .int .i64 x.tm] 46) := ⟨_, rfl⟩
        rw [← hwy]
        have HWy := Aside0.mk (show Below wx.heap.size wx wy by rw [hwy]; exact (Below.refl _ _).alloc (Nat.le_refl _) _)
        have HRy := Aside0.mk (show wy.heap[wx.heap.size]? = some (.cells #[.bool x.frm.null, .string (str x.frm.loc), .string (str x.frm.dom), .slice A1 x.to.length c1, .slice A3 x.body.length c3, .bool x.quiet, .string (str x.helo), .int .i64 x.tm] 46 (0, 0)) by rw [hwy]; exact heap_alloc_new _ _)
        have HRM := Aside0.mk (rmail_any x A1 c1 A3 c3 wy (HML.out.on HWy.out) HFX.out)
        have hrr := rmail_right x
        clear hwy q0 q1 q2 q3 q4 q5 q6 q7 b0 b1 b2 g0 g1 g2
        have HW := Aside0.mk (Below.refl wy.heap.size wy)
        have HWxy := Aside0.mk (H.out.2.trans (HWy.out.mono H.out.2.size))
        obtain ⟨⟨d0, d1, d2, d3, d4, d5, d6, d7⟩, y0, y1, y2, y3, y4, y5, y6, y7⟩ := cells8 HRy.out
        have hemp : x.helo.isEmpty = (str x.helo).toList.isEmpty := by rw [ByteArray.toList_eq]; rfl
        rw [hemp] at hrr
        obtain ⟨q, hq⟩ : ∃ q, q = x.quiet := ⟨_, rfl⟩
        rw [← hq] at hrr
        generalize hRm : B.rmail x = Rm at hrr HRM
        rcases and5b Rm (!q) ((str x.helo).toList.isEmpty) (decide (x.tm = 0)) true with h5 | ⟨h5, h6⟩ | ⟨h5, h6, h7⟩ | ⟨h5, h6, h7, h8⟩ | ⟨h5, h6, h7, h8⟩
        · subst h5
          have HTF := Aside0.mk (HT.out.trans (hno (by rw [hrr]; rfl)))
          clear hall hno hrr hRm hemp hq hlt
          (try clear h6); (try clear h7)
          go_wp2_with (first | (go_at_call 46; (with_reducible refine Calls.mono (HRM.out) ?_); rintro e wq ⟨rfl, h⟩; have hwN := (HW.out.trans (h.mono HW.out.size) : Below wy.heap.size wy wq); clear HW h; have HW := Aside0.mk hwN; (try clear d0 d1 d2 d3 d4 d5 d6 d7 y0 y1 y2 y3 y4 y5 y6 y7); obtain ⟨⟨d0, d1, d2, d3, d4, d5, d6, d7⟩, y0, y1, y2, y3, y4, y5, y6, y7⟩ := cells8 (row_on hwN HRy.out); clear hwN))
          go_ret
          exact ⟨by rw [HTF.out]; rfl, HWa.out.trans ((HWxy.out.trans (HW.out.mono HWxy.out.size)).mono HWa.out.size)⟩
        · subst h5
          obtain rfl : q = true := by simpa using h6
          rw [← hq] at d5 HRM HRy
          have HTF := Aside0.mk (HT.out.trans (hno (by rw [hrr]; rfl)))
          clear hall hno hrr hRm hemp hq hlt
          (try clear h6); (try clear h7)
          go_wp2_with (first | (go_at_call 46; (with_reducible refine Calls.mono (HRM.out) ?_); rintro e wq ⟨rfl, h⟩; have hwN := (HW.out.trans (h.mono HW.out.size) : Below wy.heap.size wy wq); clear HW h; have HW := Aside0.mk hwN; (try clear d0 d1 d2 d3 d4 d5 d6 d7 y0 y1 y2 y3 y4 y5 y6 y7); obtain ⟨⟨d0, d1, d2, d3, d4, d5, d6, d7⟩, y0, y1, y2, y3, y4, y5, y6, y7⟩ := cells8 (row_on hwN HRy.out); clear hwN))
          go_ret
          exact ⟨by rw [HTF.out]; rfl, HWa.out.trans ((HWxy.out.trans (HW.out.mono HWxy.out.size)).mono HWa.out.size)⟩
        · subst h5
          obtain rfl : q = false := by simpa using h6
          rw [← hq] at d5 HRM HRy
          have h7' : ¬ ((str x.helo).toList = []) := fun h => by rw [h] at h7; cases h7
          have HTF := Aside0.mk (HT.out.trans (hno (by rw [hrr, h7]; rfl)))
          clear hall hno hrr hRm hemp hq hlt
          (try clear h6); (try clear h7)
          go_wp2_with (first | (go_at_call 46; (with_reducible refine Calls.mono (HRM.out) ?_); rintro e wq ⟨rfl, h⟩; have hwN := (HW.out.trans (h.mono HW.out.size) : Below wy.heap.size wy wq); clear HW h; have HW := Aside0.mk hwN; (try clear d0 d1 d2 d3 d4 d5 d6 d7 y0 y1 y2 y3 y4 y5 y6 y7); obtain ⟨⟨d0, d1, d2, d3, d4, d5, d6, d7⟩, y0, y1, y2, y3, y4, y5, y6, y7⟩ := cells8 (row_on hwN HRy.out); clear hwN))
          go_ret
          exact ⟨by rw [HTF.out]; rfl, HWa.out.trans ((HWxy.out.trans (HW.out.mono HWxy.out.size)).mono HWa.out.size)⟩
        · subst h5
          obtain rfl : q = false := by simpa using h6
          rw [← hq] at d5 HRM HRy
          have h7' : (str x.helo).toList = [] := List.isEmpty_iff.1 h7
          have h8' : ¬ (x.tm = 0) := of_decide_eq_false h8
          have h8b : (x.tm != 0) = true := bne_iff_ne.2 h8'
          have HTF := Aside0.mk (HT.out.trans (hno (by rw [hrr, h7, h8]; rfl)))
          clear h8
          clear hall hno hrr hRm hemp hq hlt
          (try clear h6); (try clear h7)
          go_wp2_with (first | (go_at_call 46; (with_reducible refine Calls.mono (HRM.out) ?_); rintro e wq ⟨rfl, h⟩; have hwN := (HW.out.trans (h.mono HW.out.size) : Below wy.heap.size wy wq); clear HW h; have HW := Aside0.mk hwN; (try clear d0 d1 d2 d3 d4 d5 d6 d7 y0 y1 y2 y3 y4 y5 y6 y7); obtain ⟨⟨d0, d1, d2, d3, d4, d5, d6, d7⟩, y0, y1, y2, y3, y4, y5, y6, y7⟩ := cells8 (row_on hwN HRy.out); clear hwN))
          go_ret
          exact ⟨by rw [HTF.out]; rfl, HWa.out.trans ((HWxy.out.trans (HW.out.mono HWxy.out.size)).mono HWa.out.size)⟩
        · subst h5
          obtain rfl : q = false := by simpa using h6
          rw [← hq] at d5 HRM HRy
          have h7' : (str x.helo).toList = [] := List.isEmpty_iff.1 h7
          have h8' : x.tm = 0 := of_decide_eq_true h8
          have HALL := Aside0.mk (hall.trans (by rw [hrr, h7, h8]; first | done | rfl))
          rw [h8'] at d7 HRM HRy
          clear hall hno hrr hRm hemp hq h6 h7 h8 h8' hlt
          go_wp2_with (first | (go_at_call 46; (with_reducible refine Calls.mono (HRM.out) ?_); rintro e wq ⟨rfl, h⟩; have hwN := (HW.out.trans (h.mono HW.out.size) : Below wy.heap.size wy wq); clear HW h; have HW := Aside0.mk hwN; (try clear d0 d1 d2 d3 d4 d5 d6 d7 y0 y1 y2 y3 y4 y5 y6 y7); obtain ⟨⟨d0, d1, d2, d3, d4, d5, d6, d7⟩, y0, y1, y2, y3, y4, y5, y6, y7⟩ := cells8 (row_on hwN HRy.out); clear hwN))
          go_roundg (gk - 1)
          case measure => omega
          case rel => exact ⟨n + 1, by go_num, by omega, by omega, ⟨HALL.out, HWxy.out.trans (HW.out.mono HWxy.out.size)⟩⟩
      · have hne : n = b.mails.length := by omega
        have t1 : decide ((n : Int) < (b.mails.length : Int)) = false := by simp; omega
        have t2 : decide (n < b.mails.length) = false := by simp; omega
        have HTT := Aside0.mk (show T = true by
          have := H.out.1
          rw [hne, List.take_length] at this
          rw [HT.out, this])
        clear hne hlt
        go_wp2_with (fail)
        go_ret
        exact ⟨by rw [HTT.out]; rfl, HWa.out.trans (H.out.2.mono HWa.out.size)⟩
end Go.Proofs.YtpfmnkpmidjfjaaGreatDoor
/- What the reference's commands answers of a right bundle. -/
namespace Go.Proofs.YtpfmnkpmidjfjaaGreatDoor
open Go.RowKit Go.Lib
open Go.Proofs.YtpfmnkpmidjfjaaGreatDoorW.PrintWords
set_option linter.unusedVariables false
set_option linter.unusedSimpArgs false
theorem box_rtext {p : V.Path} (h : V.check p = true) : B.box p = V.rtext p := by
  unfold B.box V.ptext V.rtext
  rw [if_pos h]
  split <;> simp
theorem bd_append_str_step {ops : Array Oper} {o : Oper} {a : Act} {Q : Exit → Act → World → Prop} {w0 W : World} {b : Nat} {Kc : Act → World → Prop} (hw : Region.wanted o (yielded ops a.tmps) = true) (s x : Operand)
    (ho : o.op = .call { callee := .builtin .append, args := #[s, x], argTypes := #[25, 9] }) (v : Value) (xs ys : B.Bs)
    (hs : a.eval s = v) (hx : a.eval x = .string (str ys)) (h : Bd b w0 W v xs) (hlen : xs.length + ys.length ≤ 100000000000000)
    (k : ∀ v1 w1, Bd b w0 w1 v1 (xs ++ ys) → W.grownBy w1 v.ownBlock → Kc (a.put o.dst v1) w1) : if Region.wanted o (yielded ops a.tmps) = true then Oper.wp Tryz.prog o a W Kc Q else Kc (a.put o.dst undef) W := by
  rw [if_pos hw]
  obtain ⟨i0, hi, hzz⟩ := Option.map_eq_some_iff.1 infoU8
  simp only [Prod.mk.injEq] at hzz
  obtain ⟨hz0, hz1, hz2⟩ := hzz
  have hsz : (str ys).size = ys.length := str_size _
  obtain ⟨v', w', hr, h2, h3, h4⟩ := run_append_own_string (P := Tryz.prog) W b 25 9 o.type 5 i0 Tryz.underlying25 Tryz.underlying9 hi hz0 hz1 hz2 v (nb xs).length (nums .u8 (nb xs)) h.own (str ys) (by rw [hsz, nb_length]; simp only [maxLen]; omega) (by rw [hsz, nb_length]; omega) h.sz
  unfold Oper.wp execOp
  simp only [ho, resolve, invoke, builtin, Sem.run_bind, Sem.run_pure, Result.andThen_ok, List.map_toArray, List.map_cons, List.map_nil, hs, hx, hr]
  refine k v' w' ⟨h.be.grown h3 h.sz (own_base h.own), ?_, Nat.le_trans h.sz h3.size⟩ h3
  have e3 : Go.Proofs.YtpfmnkpmidjfjaaGreatDoorW.PrintWords.bytesOf (str ys) = nb ys := by
    show nb (lst (str ys)) = nb ys
    rw [lst_str]
  have e2 : strCells (str ys) = nums .u8 (nb ys) := by
    rw [← e3]
    simp [nums, Go.Proofs.YtpfmnkpmidjfjaaGreatDoorW.PrintWords.bytesOf, Lib.strCells]
  have e : nums .u8 (nb xs) ++ strCells (str ys) = nums .u8 (nb (xs ++ ys)) := by rw [nb_append, nums_append, e2]
  rw [e, show (nb xs).length + (str ys).size = (nb (xs ++ ys)).length by rw [hsz, nb_length, nb_length, List.length_append]] at h2
  exact Kd.R_of_own h2 (fun _ _ => trivial)
theorem bd_append2_step {ops : Array Oper} {o : Oper} {a : Act} {Q : Exit → Act → World → Prop} {w0 W : World} {b : Nat} {Kc : Act → World → Prop} (hw : Region.wanted o (yielded ops a.tmps) = true) (s x : Operand)
    (ho : o.op = .call { callee := .builtin .append, args := #[s, x], argTypes := #[25, 25] }) (v : Value) (xs ys : B.Bs) (A : Option Addr) (n c : Nat)
    (hs : a.eval s = v) (hx : a.eval x = .slice A n c) (hn : n = ys.length) (h : Bd b w0 W v xs) (hy : Bt W A c ys) (hlen : xs.length + ys.length ≤ 100000000000000)
    (k : ∀ v1 w1, Bd b w0 w1 v1 (xs ++ ys) → W.grownBy w1 v.ownBlock → Kc (a.put o.dst v1) w1) : if Region.wanted o (yielded ops a.tmps) = true then Oper.wp Tryz.prog o a W Kc Q else Kc (a.put o.dst undef) W := by
  subst hn
  refine Kd.R_append_rows_step kb (w0 := w0) b hw s x 25 5 (.int .u8 0) 1 ho Tryz.underlying25 infoU8 rfl (by decide) (by omega) v (nb xs) (nb ys) A (nb ys).length c (fun _ => True) (fun _ => False) hs (by rw [nb_length]; exact hx) h.ow hy.rd (fun _ _ h => h) (fun _ h => h.elim) (fun _ _ => trivial) h.be h.sz (by rw [nb_length, nb_length]; omega) ?_
  intro v1 w1 h1 h2 h3 _
  refine k v1 w1 ⟨h2, ?_, Nat.le_trans h.sz h3.size⟩ h3
  unfold Ow
  rw [nb_append]
  exact h1
theorem right_parts {m : B.Mail} (h : B.right m = true) : V.check m.frm = true ∧ (∀ p ∈ m.to, V.check p = true) ∧ B.body m.body = true := by
  unfold B.right B.sole at h
  simp only [Bool.and_eq_true, List.all_eq_true] at h
  exact ⟨h.1.1, fun p hp => (h.1.2.2.2.1 p hp).1, h.1.2.2.2.2⟩
set_option maxRecDepth 100000 in
set_option maxHeartbeats 8000000 in
theorem rcommands_any (b : B.Bundle) (A : Option Addr) (c : Nat) (w : World) (h : Bn w b A c) (hf : B.FitB b) (hr : ∀ m ∈ b.mails, B.right m = true) :
    Calls Tryz.prog 33 #[.agg #[.int .i64 b.origin, .int .i64 b.number, .slice A b.mails.length c]] w fun e w' => (∃ v, e = .returned v ∧ Ow w.heap.size w' v (B.commands b.mails)) ∧ Below w.heap.size w w' := by
  have HRT := Aside0.mk hr
  obtain ⟨w0, hw0⟩ : ∃ w0, w0 = w.alloc (.cells #[.int .i64 b.origin, .int .i64 b.number, .slice A b.mails.length c] 24) := ⟨_, rfl⟩
  have HWB := Aside0.mk (show Below w.heap.size w w0 by rw [hw0]; exact (Below.refl _ _).alloc (Nat.le_refl _) _)
  have HRB := Aside0.mk (show w0.heap[w.heap.size]? = some (.cells #[.int .i64 b.origin, .int .i64 b.number, .slice A b.mails.length c] 24 (0, 0)) by rw [hw0]; exact heap_alloc_new _ _)
  have HW0 := Aside0.mk hw0
  have HB := Aside0.mk (h.on HWB.out)
  have HM := Aside0.mk hf.ms
  have hfn := hf.n
  clear h hf hw0 hr
  go_enter Tryz.func33, Tryz.ntmps33
  go_upto_region 1 with (fail)
  rw [← HW0.out]
  go_wp2_with (fail)
  go_loopg [3, 4] b.mails.length (fun gf v3 v4 wr => ∃ (n : Nat), v4 = .int .i64 n ∧ n ≤ b.mails.length ∧ gf + n = b.mails.length ∧ Aside0 (Bd w0.heap.size w0 wr v3 ((b.mails.take n).flatMap B.mailBytes)))
  case atStart => exact ⟨0, rfl, by omega, by omega, ⟨Bd.none w0⟩⟩
  case round =>
    obtain ⟨n, rfl, hn, hg, H⟩ := hrel
    obtain ⟨wx, rfl⟩ : ∃ wz : World, wz = wr := ⟨_, rfl⟩
    obtain ⟨go, rfl⟩ : ∃ z : Nat, z = gk := ⟨_, rfl⟩
    obtain ⟨out, hout⟩ : ∃ out, out = (b.mails.take n).flatMap B.mailBytes := ⟨_, rfl⟩
    rw [← hout] at H
    obtain ⟨A6, c6, rfl, hb6⟩ := Ow.bt H.out.ow
    have hol : out.length ≤ 40000000000000 := by
      rw [hout]
      exact mails_len (fun m hm => HM.out m (List.mem_of_mem_take hm)) (by rw [List.length_take]; omega)
    have HOL := Aside0.mk hol
    have HOUT := Aside0.mk hout
    have HRx := Aside0.mk (row_on H.out.be HRB.out)
    obtain ⟨b0, b1, b2, g0, g1, g2⟩ := cells3 HRx.out
    clear hol hout hb6
    by_cases hlt : n < b.mails.length
    · obtain ⟨m, hm⟩ : ∃ m, m = b.mails.getD n B.noMail := ⟨_, rfl⟩
      obtain ⟨ad, A1, c1, A2, c2, rfl, hmc, hml⟩ := mail_at HB.out.rd n hlt m hm
      obtain ⟨q0, q1, q2, q3, q4, q5, q6, q7⟩ := hmc.on H.out.be
      have hlt' : (n : Int) < (b.mails.length : Int) := by omega
      have h0 : (0 : Int) ≤ (n : Int) := by omega
      have hmem : m ∈ b.mails := by rw [hm]; exact getD_mem b.mails n hlt _
      have HFX := Aside0.mk (HM.out _ hmem)
      have HRP := Aside0.mk (right_parts (HRT.out _ hmem))
      have HML := Aside0.mk hml
      have hft := flat_take B.mailBytes b.mails n hlt B.noMail
      rw [← hm, ← HOUT.out] at hft
      have HFT := Aside0.mk hft
      clear hm hmc hml hft hmem
      go_upto_region 6 with (fail)
      obtain ⟨wy, hwy⟩ : ∃ wy, wy = wx.alloc (.cells #[.bool m.frm.null, .string (str m.frm.loc), .string (str m.frm.dom), .slice A1 m.to.length c1, .slice A2 m.body.length c2, .bool m.quiet, .string (str m.helo), .int .i64 m.tm] 46) := ⟨_, rfl⟩
      obtain ⟨gm, hgm⟩ : ∃ gm, gm = wx.heap.size := ⟨_, rfl⟩
      rw [← hwy, ← hgm]
      have HDy := Aside0.mk (show Bd w0.heap.size w0 wy (.slice A6 out.length c6) out by rw [hwy]; exact H.out.alloc _)
      have HRy := Aside0.mk (show wy.heap[gm]? = some (.cells #[.bool m.frm.null, .string (str m.frm.loc), .string (str m.frm.dom), .slice A1 m.to.length c1, .slice A2 m.body.length c2, .bool m.quiet, .string (str m.helo), .int .i64 m.tm] 46 (0, 0)) by rw [hwy, hgm]; exact heap_alloc_new _ _)
      clear hwy hgm q0 q1 q2 q3 q4 q5 q6 q7 b0 b1 b2 g0 g1 g2
      obtain ⟨⟨d0, d1, d2, d3, d4, d5, d6, d7⟩, y0, y1, y2, y3, y4, y5, y6, y7⟩ := cells8 HRy.out
      obtain ⟨bx, hbx⟩ : ∃ bx, bx = V.rtext m.frm := ⟨_, rfl⟩
      have hbb : bx = B.box m.frm := by rw [hbx, box_rtext HRP.out.1]
      have hbl := box_len HFX.out.frm
      rw [← hbb] at hbl
      have hpt : ∀ W, Calls Tryz.prog 55 #[.agg #[.bool m.frm.null, .string (str m.frm.loc), .string (str m.frm.dom)]] W fun e w' => e = .returned (.string (str bx)) ∧ Below W.heap.size W w' := fun W => by rw [hbx]; exact rtext_any m.frm W HFX.out.frm.1 HFX.out.frm.2
      have HPT := Aside0.mk hpt
      have k1 := kat (a := B.wFrom) (b := bx) (x := ⟨#[77, 65, 73, 76, 32, 70, 82, 79, 77, 58]⟩) (y := str bx) rfl rfl (by decide) (by omega)
      have k2 := kat (a := B.wFrom ++ bx) (b := [13, 10]) (x := str (B.wFrom ++ bx)) (y := ⟨#[13, 10]⟩) rfl rfl (by have : B.wFrom.length = 10 := rfl; rw [List.length_append]; omega) (by decide)
      obtain ⟨s1, hs1⟩ : ∃ s1, s1 = str (B.wFrom ++ bx) := ⟨_, rfl⟩
      obtain ⟨l2, hl2⟩ : ∃ l2, l2 = B.wFrom ++ bx ++ [13, 10] := ⟨_, rfl⟩
      have hl2l : l2.length ≤ 300000 := by have : B.wFrom.length = 10 := rfl; rw [hl2, List.length_append, List.length_append]; simp; omega
      rw [← hs1] at k1 k2
      rw [← hl2] at k2
      have HL2 := Aside0.mk hl2l
      have HLL := Aside0.mk (show l2 = B.wFrom ++ B.box m.frm ++ B.crlf by rw [hl2, hbb]; rfl)
      clear hpt hbx hbb hbl hs1 hl2 hl2l
      go_wp2_with (first | (go_at_call 55; (with_reducible refine Calls.mono (HPT.out _) ?_); rintro r w1 ⟨rfl, h⟩; have HD1 := Aside0.mk (HDy.out.go h); have HR1 := Aside0.mk (row_on h HRy.out); clear h) | ((with_reducible refine gate_builtin (b := .append) (xs := #[.tmp 19, .tmp 24]) rfl ?_); at_builtin; refine bd_append_str rfl (.tmp 19) (.tmp 24) rfl _ _ l2 rfl rfl HD1.out (by have := HOL.out; have := HL2.out; omega) ?_; intro v1 w2 h hg; have HD2 := Aside0.mk h; have HR2 := Aside0.mk (HD1.out.row hg (by decide) HR1.out); clear h hg; (try clear d0 d1 d2 d3 d4 d5 d6 d7 y0 y1 y2 y3 y4 y5 y6 y7); obtain ⟨⟨d0, d1, d2, d3, d4, d5, d6, d7⟩, y0, y1, y2, y3, y4, y5, y6, y7⟩ := cells8 HR2.out))
      go_loopg [3, 6] m.to.length (fun gf v3 v6 wr => ∃ (k : Nat), v6 = .int .i64 k ∧ k ≤ m.to.length ∧ gf + k = m.to.length ∧ Aside0 (Bd w0.heap.size w0 wr v3 (out ++ l2 ++ (m.to.take k).flatMap B.toLine) ∧ wr.heap[gm]? = some (.cells #[.bool m.frm.null, .string (str m.frm.loc), .string (str m.frm.dom), .slice A1 m.to.length c1, .slice A2 m.body.length c2, .bool m.quiet, .string (str m.helo), .int .i64 m.tm] 46 (0, 0))))
      case atStart => exact ⟨0, rfl, by omega, by omega, ⟨by simpa using HD2.out, HR2.out⟩⟩
      case round =>
        obtain ⟨k, rfl, hk, hgk, H3⟩ := hrel
        obtain ⟨wz, rfl⟩ : ∃ wz : World, wz = wr := ⟨_, rfl⟩
        obtain ⟨gi, rfl⟩ : ∃ z : Nat, z = gk := ⟨_, rfl⟩
        obtain ⟨out3, hout3⟩ : ∃ out3, out3 = out ++ l2 ++ (m.to.take k).flatMap B.toLine := ⟨_, rfl⟩
        rw [← hout3] at H3
        have hol3 : out3.length ≤ 61000000000000 := by
          have h1 := tos_len (l := m.to.take k) (fun p hp => HFX.out.tos p (List.mem_of_mem_take hp)) (by rw [List.length_take]; have := HFX.out.n; omega)
          have := HOL.out
          have := HL2.out
          rw [hout3]
          simp only [List.length_append]
          omega
        have HOL3 := Aside0.mk hol3
        have HOUT3 := Aside0.mk hout3
        obtain ⟨A7, c7, rfl, hb7⟩ := Ow.bt H3.out.1.ow
        clear hol3 hout3 hb7 k1 k2 d0 d1 d2 d3 d4 d5 d6 d7 y0 y1 y2 y3 y4 y5 y6 y7
        obtain ⟨⟨d0, d1, d2, d3, d4, d5, d6, d7⟩, y0, y1, y2, y3, y4, y5, y6, y7⟩ := cells8 H3.out.2
        have hto : m.to.length ≤ 100000 := HFX.out.n
        by_cases hkl : k < m.to.length
        · obtain ⟨p, hp⟩ : ∃ p, p = m.to.getD k V.noPath := ⟨_, rfl⟩
          obtain ⟨ad1, rfl, hp0, hp1, hp2⟩ := path_at HML.out.tos k hkl p hp
          have f0 := cell_up H3.out.1.be hp0
          have f1 := cell_up H3.out.1.be hp1
          have f2 := cell_up H3.out.1.be hp2
          have hkl' : (k : Int) < (m.to.length : Int) := by omega
          have hk0 : (0 : Int) ≤ (k : Int) := by omega
          have hpm : p ∈ m.to := by rw [hp]; exact getD_mem m.to k hkl _
          have hfp : B.fitP p := HFX.out.tos _ hpm
          have hft := flat_take B.toLine m.to k hkl V.noPath
          rw [← hp] at hft
          have HFK := Aside0.mk hft
          obtain ⟨by2, hby⟩ : ∃ by2, by2 = V.rtext p := ⟨_, rfl⟩
          have hbb : by2 = B.box p := by rw [hby, box_rtext (HRP.out.2.1 p hpm)]
          have hbl := box_len hfp
          rw [← hbb] at hbl
          have hpt : ∀ W, Calls Tryz.prog 55 #[.agg #[.bool p.null, .string (str p.loc), .string (str p.dom)]] W fun e w' => e = .returned (.string (str by2)) ∧ Below W.heap.size W w' := fun W => by rw [hby]; exact rtext_any p W hfp.1 hfp.2
          have HPT2 := Aside0.mk hpt
          have k1 := kat (a := B.wTo) (b := by2) (x := ⟨#[82, 67, 80, 84, 32, 84, 79, 58]⟩) (y := str by2) rfl rfl (by decide) (by omega)
          have k2 := kat (a := B.wTo ++ by2) (b := [13, 10]) (x := str (B.wTo ++ by2)) (y := ⟨#[13, 10]⟩) rfl rfl (by have : B.wTo.length = 8 := rfl; rw [List.length_append]; omega) (by decide)
          obtain ⟨s3, hs3⟩ : ∃ s3, s3 = str (B.wTo ++ by2) := ⟨_, rfl⟩
          obtain ⟨l4, hl4⟩ : ∃ l4, l4 = B.wTo ++ by2 ++ [13, 10] := ⟨_, rfl⟩
          have hl4l : l4.length ≤ 300000 := by have : B.wTo.length = 8 := rfl; rw [hl4, List.length_append, List.length_append]; simp; omega
          rw [← hs3] at k1 k2
          rw [← hl4] at k2
          have HL4 := Aside0.mk hl4l
          have HLL4 := Aside0.mk (show l4 = B.toLine p by rw [hl4, hbb]; rfl)
          clear hpt hby hbb hbl hs3 hl4 hl4l hft hp hp0 hp1 hp2 hfp hkl hpm
          go_wp2_with (first | (go_at_call 55; (with_reducible refine Calls.mono (HPT2.out _) ?_); rintro r w4 ⟨rfl, h⟩; have HD4 := Aside0.mk (H3.out.1.go h); have HR4 := Aside0.mk (row_on h H3.out.2); clear h) | ((with_reducible refine gate_builtin (b := .append) (xs := #[.tmp 33, .tmp 41]) rfl ?_); at_builtin; refine bd_append_str rfl (.tmp 33) (.tmp 41) rfl _ _ l4 rfl rfl HD4.out (by have := HOL3.out; have := HL4.out; omega) ?_; intro v5 w5 h hg; have HD5 := Aside0.mk h; have HR5 := Aside0.mk (HD4.out.row hg (by decide) HR4.out); clear h hg))
          go_roundg (gi - 1)
          case measure => omega
          case rel =>
            refine ⟨k + 1, by go_num, by omega, by omega, ⟨?_, HR5.out⟩⟩
            have h5 := HD5.out
            rw [HOUT3.out, HLL4.out] at h5
            rw [HFK.out]
            simpa using h5
        · have hke : k = m.to.length := by omega
          have t1 : decide ((k : Int) < (m.to.length : Int)) = false := by simp; omega
          have t2 : decide (k < m.to.length) = false := by simp; omega
          obtain ⟨st, hst⟩ : ∃ st, st = B.stuff m.body := ⟨_, rfl⟩
          have hsl : st.length ≤ 10001000000 := by rw [hst]; exact stuff_len HFX.out.body
          have hsf : ∀ W, Below w0.heap.size w0 W → Calls Tryz.prog 56 #[.slice A2 m.body.length c2] W fun e w' => (∃ A' c', e = .returned (.slice A' st.length c') ∧ Bt w' A' c' st) ∧ Below W.heap.size W w' := fun W hW => by
            refine (rstuff_any (HML.out.body.on hW) (by have := HFX.out.body; omega) HRP.out.2.2).mono ?_
            rintro e w' ⟨⟨v, rfl, h1⟩, h2⟩
            rw [← hst] at h1
            obtain ⟨A', c', rfl, h3⟩ := Ow.bt h1
            exact ⟨⟨A', c', rfl, h3⟩, h2⟩
          have HSF := Aside0.mk hsf
          have HSL := Aside0.mk hsl
          have h6 : out3 ++ [68, 65, 84, 65, 13, 10] ++ st = out ++ B.mailBytes m := by
            rw [HOUT3.out, hke, List.take_length, HLL.out, hst]
            unfold B.mailBytes B.wData
            rw [if_pos HRP.out.2.2]
            simp only [List.append_assoc]
          have HEQ := Aside0.mk h6
          have HS := Aside0.mk (fun (W : World) (hW : W.heap[gm]? = some (.cells #[.bool m.frm.null, .string (str m.frm.loc), .string (str m.frm.dom), .slice A1 m.to.length c1, .slice A2 m.body.length c2, .bool m.quiet, .string (str m.helo), .int .i64 m.tm] 46 (0, 0))) => (cells8 hW).1.2.2.2.2.1)
          clear hst hsl hsf hke h6 hkl
          go_upto_region 11 with (fail)
          refine wp_region_held_drew (S := (fun w' => w'.cell? ⟨gm, 4, none⟩ = some (.slice A2 m.body.length c2))) (by kernel_rfl) ?_ (fun hHeld => ?_)
          · first | exact HS.out _ H3.out.2 | exact HS.out _ HR7.out | exact HS.out _ HR8.out | exact HS.out _ HR9.out
          refine wpAnyH_take (i := 0) (oi := _) (v := ?_) rfl (by kernel_rfl) (by kernel_rfl) (by kernel_rfl) (fun _ _ _ h => h) (Or.inl ⟨by rfl, ?_⟩) (by assumption) ?_
          case refine_2 => (intro w hSw; (try dsimp only [List.getElem_toArray, List.getElem_cons_zero, List.getElem_cons_succ] at hSw ⊢); go_simp; (try with_reducible rfl))
          try simp only [Act.put, List.getElem_toArray, List.getElem_cons_zero, List.getElem_cons_succ, List.setIfInBounds_toArray, List.set_cons_zero, List.set_cons_succ]
          refine wpAnyH_take (i := 2) (oi := _) (v := ?_) rfl (by kernel_rfl) (by kernel_rfl) (by kernel_rfl) (fun _ _ _ h => h) (Or.inl ⟨by rfl, ?_⟩) (by assumption) ?_
          case refine_2 => (intro w hSw; (try dsimp only [List.getElem_toArray, List.getElem_cons_zero, List.getElem_cons_succ] at hSw ⊢); go_simp; (try with_reducible rfl))
          try simp only [Act.put, List.getElem_toArray, List.getElem_cons_zero, List.getElem_cons_succ, List.setIfInBounds_toArray, List.set_cons_zero, List.set_cons_succ]
          refine wpAnyH_take (i := 3) (oi := _) (v := ?_) rfl (by kernel_rfl) (by kernel_rfl) (by kernel_rfl) (fun _ _ _ h => h) (Or.inl ⟨by rfl, ?_⟩) (by assumption) ?_
          case refine_2 => (intro w hSw; (try dsimp only [List.getElem_toArray, List.getElem_cons_zero, List.getElem_cons_succ] at hSw ⊢); go_simp; (try with_reducible rfl))
          try simp only [Act.put, List.getElem_toArray, List.getElem_cons_zero, List.getElem_cons_succ, List.setIfInBounds_toArray, List.set_cons_zero, List.set_cons_succ]
          refine wpAnyH_ready (rs := [1]) (by kernel_rfl) (by simp) ?_
          refine (AllReadyH.cons (o := _) (by simp only [List.getElem?_toArray, List.getElem?_cons_zero, List.getElem?_cons_succ]; rfl) (fun K hK => ?_) AllReadyH.nil)
          refine bd_append_str_step (by rfl) (.tmp 43) (.const (.string { data := #[68, 65, 84, 65, 13, 10] })) rfl _ _ [68, 65, 84, 65, 13, 10] rfl rfl (H3.out.1.go ((Below.refl wz.heap.size wz).drew)) (by have := HOL3.out; simp; omega) ?_
          intro v7 w7 hd7 hg7
          have HD7 := Aside0.mk hd7
          have HR7 := Aside0.mk ((H3.out.1.go ((Below.refl wz.heap.size wz).drew)).row hg7 (by decide) H3.out.2)
          clear hd7 hg7
          refine hK.out _ _ ?_ (fun hHeld2 => ?_)
          · first | exact HS.out _ H3.out.2 | exact HS.out _ HR7.out | exact HS.out _ HR8.out | exact HS.out _ HR9.out
          clear hK K hHeld
          have hHeld := hHeld2
          clear hHeld2
          try simp only [Act.put, List.getElem_toArray, List.getElem_cons_zero, List.getElem_cons_succ, List.setIfInBounds_toArray, List.set_cons_zero, List.set_cons_succ]
          refine wpAnyH_ready (rs := [4]) (by kernel_rfl) (by simp) ?_
          refine (AllReadyH.cons (o := _) (by simp only [List.getElem?_toArray, List.getElem?_cons_zero, List.getElem?_cons_succ]; rfl) (fun K hK => ?_) AllReadyH.nil)
          go_simp
          go_at_call 56
          (with_reducible refine Calls.mono (HSF.out _ HD7.out.be) ?_)
          rintro e w8 ⟨⟨A8, c8, rfl, hb8⟩, h⟩
          have HD8 := Aside0.mk (HD7.out.go h)
          have HB8 := Aside0.mk hb8
          have HR8 := Aside0.mk (row_on h HR7.out)
          clear hb8 h
          go_wp2_with (fail)
          refine hK.out _ _ ?_ (fun hHeld2 => ?_)
          · first | exact HS.out _ H3.out.2 | exact HS.out _ HR7.out | exact HS.out _ HR8.out | exact HS.out _ HR9.out
          clear hK K hHeld
          have hHeld := hHeld2
          clear hHeld2
          try simp only [Act.put, List.getElem_toArray, List.getElem_cons_zero, List.getElem_cons_succ, List.setIfInBounds_toArray, List.set_cons_zero, List.set_cons_succ]
          refine wpAnyH_ready (rs := [5]) (by kernel_rfl) (by simp) ?_
          refine (AllReadyH.cons (o := _) (by simp only [List.getElem?_toArray, List.getElem?_cons_zero, List.getElem?_cons_succ]; rfl) (fun K hK => ?_) AllReadyH.nil)
          refine bd_append2_step (by rfl) (.tmp 44) (.tmp 47) rfl _ _ st A8 _ c8 rfl rfl rfl HD8.out HB8.out (by have := HOL3.out; have := HSL.out; simp; omega) ?_
          intro v9 w9 hd9 hg9
          have HD9 := Aside0.mk hd9
          have HR9 := Aside0.mk (HD8.out.row hg9 (by decide) HR8.out)
          clear hd9 hg9
          refine hK.out _ _ ?_ (fun hHeld2 => ?_)
          · first | exact HS.out _ H3.out.2 | exact HS.out _ HR7.out | exact HS.out _ HR8.out | exact HS.out _ HR9.out
          clear hK K hHeld
          have hHeld := hHeld2
          clear hHeld2
          try simp only [Act.put, List.getElem_toArray, List.getElem_cons_zero, List.getElem_cons_succ, List.setIfInBounds_toArray, List.set_cons_zero, List.set_cons_succ]
          refine wpAnyH_take (i := 6) (oi := _) (v := ?_) rfl (by kernel_rfl) (by kernel_rfl) (by kernel_rfl) (fun _ _ _ h => h) (Or.inl ⟨by rfl, ?_⟩) (by assumption) ?_
          case refine_2 => (intro w hSw; (try dsimp only [List.getElem_toArray, List.getElem_cons_zero, List.getElem_cons_succ] at hSw ⊢); go_simp; (try with_reducible rfl))
          try simp only [Act.put, List.getElem_toArray, List.getElem_cons_zero, List.getElem_cons_succ, List.setIfInBounds_toArray, List.set_cons_zero, List.set_cons_succ]
          refine wpAnyH_done (by kernel_rfl) ?_ _
          go_wp2_with (fail)
          go_roundg (go - 1)
          case measure => omega
          case rel =>
            refine ⟨n + 1, by go_num, by omega, by omega, ⟨?_⟩⟩
            have h9 := HD9.out
            rw [HEQ.out] at h9
            rw [HFT.out]
            exact h9
    · have hne : n = b.mails.length := by omega
      have t1 : decide ((n : Int) < (b.mails.length : Int)) = false := by simp; omega
      have t2 : decide (n < b.mails.length) = false := by simp; omega
      have h6 : out ++ [81, 85, 73, 84, 13, 10] = B.commands b.mails := by
        rw [HOUT.out, hne, List.take_length]
        rfl
      have HEQ := Aside0.mk h6
      clear hne h6 hlt
      go_wp2_with (first | ((with_reducible refine gate_builtin (b := .append) (xs := #[.tmp 49, .const (.string { data := #[81, 85, 73, 84, 13, 10] })]) rfl ?_); at_builtin; refine bd_append_str rfl (.tmp 49) (.const (.string { data := #[81, 85, 73, 84, 13, 10] })) rfl _ _ [81, 85, 73, 84, 13, 10] rfl rfl H.out (by have := HOL.out; simp; omega) ?_; intro v7 w7 h hg; have HD7 := Aside0.mk h; clear h hg))
      go_ret
      refine ⟨⟨_, rfl, ?_⟩, HWB.out.trans (HD7.out.be.mono HWB.out.size)⟩
      have h7 := HD7.out.ow
      rw [HEQ.out] at h7
      exact h7.low HWB.out.size
end Go.Proofs.YtpfmnkpmidjfjaaGreatDoor
/- What the reference's BundleBytes answers. -/
namespace Go.Proofs.YtpfmnkpmidjfjaaGreatDoor
open Go.RowKit Go.Lib
open Go.Proofs.YtpfmnkpmidjfjaaGreatDoorW.PrintWords
set_option linter.unusedVariables false
set_option linter.unusedSimpArgs false
theorem kat2 {a b : V.Bs} {x y : ByteArray} (hx : x = str a) (hy : y = str b) (ha : a.length ≤ 1000000) (hb : b.length ≤ 1000000) : ∃ z, z = str (a ++ b) ∧ ∀ w, (Op.stringOp .add x y).run Tryz.prog w = .ok (.string z) w := ⟨_, rfl, kat hx hy ha hb⟩
theorem itoa_small (n : Int) (h0 : 0 ≤ n) (h1 : n < 1000000000000000) : Lib.itoa n = Lib.decDigits n.toNat ∧ (Lib.itoa n).length ≤ 15 := by
  have e : Lib.itoa n = Lib.decDigits n.toNat := by
    unfold Lib.itoa
    rw [if_neg (by omega)]
  exact ⟨e, by rw [e]; exact digits_len n.toNat 14 (by omega)⟩
/-- Digits, of a number in a name: the text too in a name. -/
theorem digits_at (n : Int) (h0 : 0 ≤ n) (h1 : n < 1000000000000000) : ∃ (e : B.Bs) (s : ByteArray), e = Lib.itoa n ∧ s = str e ∧ e.length ≤ 15 ∧ ∀ w, Calls Tryz.prog 27 #[.int .i64 n] w fun e w' => e = .returned (.string s) ∧ Below w.heap.size w w' := by
  have h := itoa_small n h0 h1
  refine ⟨_, _, rfl, rfl, h.2, fun w => ?_⟩
  have hd := digits_any n.toNat (by omega) w
  rw [show ((n.toNat : Nat) : Int) = n by omega, ← h.1] at hd
  exact hd
set_option maxRecDepth 100000 in
set_option maxHeartbeats 8000000 in
theorem rbytes_any (b : B.Bundle) (A : Option Addr) (c : Nat) (w : World) (h : Bn w b A c) (hf : B.FitB b) :
    Calls Tryz.prog 14 #[.agg #[.int .i64 b.origin, .int .i64 b.number, .slice A b.mails.length c]] w fun e w' => (∃ A1 c1, e = .returned (.tuple #[.slice A1 (B.bytes b).1.length c1, .int .i64 (B.bytes b).2]) ∧ Bt w' A1 c1 (B.bytes b).1) ∧ Below w.heap.size w w' := by
  obtain ⟨X, hX⟩ : ∃ X, X = B.bytes b := ⟨_, rfl⟩
  rw [← hX]
  obtain ⟨w0, hw0⟩ : ∃ w0, w0 = w.alloc (.cells #[.int .i64 b.origin, .int .i64 b.number, .slice A b.mails.length c] 24) := ⟨_, rfl⟩
  have HWB := Aside0.mk (show Below w.heap.size w w0 by rw [hw0]; exact (Below.refl _ _).alloc (Nat.le_refl _) _)
  have HR := Aside0.mk (show w0.heap[w.heap.size]? = some (.cells #[.int .i64 b.origin, .int .i64 b.number, .slice A b.mails.length c] 24 (0, 0)) by rw [hw0]; exact heap_alloc_new _ _)
  have HW0 := Aside0.mk hw0
  have HB := Aside0.mk (h.on HWB.out)
  have hbd := rbundle_any b A c w0 HB.out hf
  cases hck : B.check b with
  | false =>
    have hX2 : X = ([], 5) := by rw [hX]; unfold B.bytes; rw [hck]; rfl
    have HX := Aside0.mk hX2
    rw [hck] at hbd
    have HBD := Aside0.mk hbd
    clear hX hX2 hbd hck h hf hw0
    go_enter Tryz.func14, Tryz.ntmps14
    go_upto_region 1 with (fail)
    rw [← HW0.out]
    obtain ⟨b0, b1, b2, g0, g1, g2⟩ := cells3 HR.out
    go_wp2_with (first | (go_at_call 20; (with_reducible refine Calls.mono HBD.out ?_); rintro r w1 ⟨rfl, h⟩; have H1 := Aside0.mk h; clear h))
    go_ret2
    refine ⟨⟨none, 0, by rw [HX.out]; rfl, ?_⟩, HWB.out.trans (H1.out.mono HWB.out.size)⟩
    rw [HX.out]
    exact Bt.none _
  | true =>
    obtain ⟨cm, hcm⟩ : ∃ cm, cm = B.commands b.mails := ⟨_, rfl⟩
    have hX2 : X = if 4096 < (B.head b cm ++ cm).length then ([], 2) else (B.head b cm ++ cm, 0) := by rw [hX, hcm]; unfold B.bytes; rw [hck]; rfl
    have hrt : ∀ m ∈ b.mails, B.right m = true := by
      unfold B.check at hck
      simp only [Bool.and_eq_true, List.all_eq_true] at hck
      exact hck.2.2.2.2.2.2
    have hrng := check_ranges hck
    have hcl := commands_len hf
    have hcp := commands_pos b.mails
    rw [← hcm] at hcl hcp
    have hcc : ∀ W, Below w0.heap.size w0 W → Calls Tryz.prog 33 #[.agg #[.int .i64 b.origin, .int .i64 b.number, .slice A b.mails.length c]] W fun e w' => (∃ v, e = .returned v ∧ Ow W.heap.size w' v cm) ∧ Below W.heap.size W w' := fun W hW => by rw [hcm]; exact rcommands_any b A c W (HB.out.on hW) hf hrt
    rw [hck] at hbd
    have HBD := Aside0.mk hbd
    have HX := Aside0.mk hX2
    have HCC := Aside0.mk hcc
    have HCL := Aside0.mk hcl
    have HCP := Aside0.mk hcp
    have HF := Aside0.mk hf
    clear hX hX2 hbd hck h hf hw0 hrt hcl hcp hcc hcm
    go_enter Tryz.func14, Tryz.ntmps14
    go_upto_region 1 with (fail)
    rw [← HW0.out]
    obtain ⟨b0, b1, b2, g0, g1, g2⟩ := cells3 HR.out
    go_upto_region 4 with (first | (go_at_call 20; (with_reducible refine Calls.mono HBD.out ?_); rintro r w1 ⟨rfl, h⟩; have H1 := Aside0.mk h; (clear b0 b1 b2 g0 g1 g2); obtain ⟨b0, b1, b2, g0, g1, g2⟩ := cells3 (row_on h HR.out); clear h) | (go_at_call 33; (with_reducible refine Calls.mono (HCC.out _ H1.out) ?_); rintro r w2 ⟨⟨v, rfl, ho⟩, h⟩; have H2 := Aside0.mk (H1.out.trans (h.mono H1.out.size)); obtain ⟨A5, c5, rfl, hb5⟩ := Ow.bt ho; have HC5 := Aside0.mk hb5; clear h ho hb5))
    have HR2 := Aside0.mk (row_on H2.out HR.out)
    clear b0 b1 b2 g0 g1 g2
    have hcl := HCL.out
    have hcp := HCP.out
    · have HLG := Aside0.mk (fun W (hW : Below w2.heap.size w2 W) => rlong_any (HC5.out.on hW) (by omega))
      have hlt := B.long_lt cm
      obtain ⟨e1, s1, he1, hs1, hl1, hd1⟩ := digits_at b.origin (by omega) (by omega)
      obtain ⟨e2, s2, he2, hs2, hl2, hd2⟩ := digits_at b.number (by omega) (by omega)
      obtain ⟨e3, s3, he3, hs3, hl3, hd3⟩ := digits_at (b.mails.length : Int) (by omega) (by omega)
      obtain ⟨e4, s4, he4, hs4, hl4, hd4⟩ := digits_at (cm.length : Int) (by omega) (by omega)
      obtain ⟨e5, s5, he5, hs5, hl5, hd5⟩ := digits_at ((B.long cm : Nat) : Int) (by omega) (by omega)
      have HD1 := Aside0.mk hd1
      have HD2 := Aside0.mk hd2
      have HD3 := Aside0.mk hd3
      have HD4 := Aside0.mk hd4
      have HD5 := Aside0.mk hd5
      obtain ⟨z1, hz1, k1⟩ := kat2 (a := (B.wBundle ++ [32])) (b := e1) (x := (⟨#[66, 85, 78, 68, 76, 69, 32]⟩ : ByteArray)) (y := s1) rfl hs1 (by simp [B.wBundle] <;> omega) (by omega)
      obtain ⟨z2, hz2, k2⟩ := kat2 (a := ((B.wBundle ++ [32]) ++ e1)) (b := [32]) (x := z1) (y := ⟨#[32]⟩) hz1 rfl (by simp [B.wBundle] <;> omega) (by decide)
      obtain ⟨z3, hz3, k3⟩ := kat2 (a := (((B.wBundle ++ [32]) ++ e1) ++ [32])) (b := e2) (x := z2) (y := s2) hz2 hs2 (by simp [B.wBundle] <;> omega) (by omega)
      obtain ⟨z4, hz4, k4⟩ := kat2 (a := ((((B.wBundle ++ [32]) ++ e1) ++ [32]) ++ e2)) (b := [32]) (x := z3) (y := ⟨#[32]⟩) hz3 rfl (by simp [B.wBundle] <;> omega) (by decide)
      obtain ⟨z5, hz5, k5⟩ := kat2 (a := (((((B.wBundle ++ [32]) ++ e1) ++ [32]) ++ e2) ++ [32])) (b := e3) (x := z4) (y := s3) hz4 hs3 (by simp [B.wBundle] <;> omega) (by omega)
      obtain ⟨z6, hz6, k6⟩ := kat2 (a := ((((((B.wBundle ++ [32]) ++ e1) ++ [32]) ++ e2) ++ [32]) ++ e3)) (b := [32]) (x := z5) (y := ⟨#[32]⟩) hz5 rfl (by simp [B.wBundle] <;> omega) (by decide)
      obtain ⟨z7, hz7, k7⟩ := kat2 (a := (((((((B.wBundle ++ [32]) ++ e1) ++ [32]) ++ e2) ++ [32]) ++ e3) ++ [32])) (b := e4) (x := z6) (y := s4) hz6 hs4 (by simp [B.wBundle] <;> omega) (by omega)
      obtain ⟨z8, hz8, k8⟩ := kat2 (a := ((((((((B.wBundle ++ [32]) ++ e1) ++ [32]) ++ e2) ++ [32]) ++ e3) ++ [32]) ++ e4)) (b := [32]) (x := z7) (y := ⟨#[32]⟩) hz7 rfl (by simp [B.wBundle] <;> omega) (by decide)
      obtain ⟨z9, hz9, k9⟩ := kat2 (a := (((((((((B.wBundle ++ [32]) ++ e1) ++ [32]) ++ e2) ++ [32]) ++ e3) ++ [32]) ++ e4) ++ [32])) (b := e5) (x := z8) (y := s5) hz8 hs5 (by simp [B.wBundle] <;> omega) (by omega)
      obtain ⟨z10, hz10, k10⟩ := kat2 (a := ((((((((((B.wBundle ++ [32]) ++ e1) ++ [32]) ++ e2) ++ [32]) ++ e3) ++ [32]) ++ e4) ++ [32]) ++ e5)) (b := [13, 10]) (x := z9) (y := ⟨#[13, 10]⟩) hz9 rfl (by simp [B.wBundle] <;> omega) (by decide)
      have heq : (((((((((((B.wBundle ++ [32]) ++ e1) ++ [32]) ++ e2) ++ [32]) ++ e3) ++ [32]) ++ e4) ++ [32]) ++ e5) ++ [13, 10]) = B.head b cm := by
        unfold B.head B.nums
        rw [he1, he2, he3, he4, he5]
        simp [B.crlf]
      rw [heq] at hz10
      subst hz10
      have hhl : (B.head b cm).length ≤ 300 := by rw [← heq]; simp [B.wBundle]; omega
      have hconv := conv_run (str (B.head b cm))
      have HHL := Aside0.mk hhl
      have HS := Aside0.mk (fun W (hW : Below w2.heap.size w2 W) => let ⟨x0, x1, x2, _⟩ := cells3 (row_on hW HR2.out); And.intro x0 (And.intro x1 x2))
      have HW := Aside0.mk (Below.refl w2.heap.size w2)
      clear hd1 hd2 hd3 hd4 hd5 he1 he2 he3 he4 he5 heq hhl hl1 hl2 hl3 hl4 hl5 hz1 hz2 hz3 hz4 hz5 hz6 hz7 hz8 hz9 hs1 hs2 hs3 hs4 hs5
      refine wp_region_held_drew (S := (fun w' => w'.cell? ⟨w.heap.size, 0, none⟩ = some (.int .i64 b.origin) ∧ w'.cell? ⟨w.heap.size, 1, none⟩ = some (.int .i64 b.number) ∧ w'.cell? ⟨w.heap.size, 2, none⟩ = some (.slice A b.mails.length c))) (by kernel_rfl) ?_ (fun hHeld => ?_)
      · first | exact HS.out _ (HW.out.drew) | exact HS.out _ HW.out | exact HS.out _ (HW.out.trans (HWc.out.mono HW.out.size))
      refine wpAnyH_take (i := 0) (oi := _) (v := ?_) rfl (by kernel_rfl) (by kernel_rfl) (by kernel_rfl) (fun _ _ _ h => h) (Or.inl ⟨by rfl, ?_⟩) (by assumption) ?_
      case refine_2 => (intro w hSw; (try dsimp only [List.getElem_toArray, List.getElem_cons_zero, List.getElem_cons_succ] at hSw ⊢); go_simp; (try with_reducible rfl))
      try simp only [Act.put, List.getElem_toArray, List.getElem_cons_zero, List.getElem_cons_succ, List.setIfInBounds_toArray, List.set_cons_zero, List.set_cons_succ]
      refine wpAnyH_take (i := 1) (oi := _) (v := ?_) rfl (by kernel_rfl) (by kernel_rfl) (by kernel_rfl) (fun _ _ _ h => h) (Or.inl ⟨by rfl, ?_⟩) (by assumption) ?_
      case refine_2 => (intro w hSw; (try dsimp only [List.getElem_toArray, List.getElem_cons_zero, List.getElem_cons_succ] at hSw ⊢); go_simp; (try with_reducible rfl))
      try simp only [Act.put, List.getElem_toArray, List.getElem_cons_zero, List.getElem_cons_succ, List.setIfInBounds_toArray, List.set_cons_zero, List.set_cons_succ]
      refine wpAnyH_take (i := 5) (oi := _) (v := ?_) rfl (by kernel_rfl) (by kernel_rfl) (by kernel_rfl) (fun _ _ _ h => h) (Or.inl ⟨by rfl, ?_⟩) (by assumption) ?_
      case refine_2 => (intro w hSw; (try dsimp only [List.getElem_toArray, List.getElem_cons_zero, List.getElem_cons_succ] at hSw ⊢); go_simp; (try with_reducible rfl))
      try simp only [Act.put, List.getElem_toArray, List.getElem_cons_zero, List.getElem_cons_succ, List.setIfInBounds_toArray, List.set_cons_zero, List.set_cons_succ]
      refine wpAnyH_take (i := 6) (oi := _) (v := ?_) rfl (by kernel_rfl) (by kernel_rfl) (by kernel_rfl) (fun _ _ _ h => h) (Or.inl ⟨by rfl, ?_⟩) (by assumption) ?_
      case refine_2 => (intro w hSw; (try dsimp only [List.getElem_toArray, List.getElem_cons_zero, List.getElem_cons_succ] at hSw ⊢); go_simp; (try with_reducible rfl))
      try simp only [Act.put, List.getElem_toArray, List.getElem_cons_zero, List.getElem_cons_succ, List.setIfInBounds_toArray, List.set_cons_zero, List.set_cons_succ]
      refine wpAnyH_take (i := 10) (oi := _) (v := ?_) rfl (by kernel_rfl) (by kernel_rfl) (by kernel_rfl) (fun _ _ _ h => h) (Or.inl ⟨by rfl, ?_⟩) (by assumption) ?_
      case refine_2 => (intro w hSw; (try dsimp only [List.getElem_toArray, List.getElem_cons_zero, List.getElem_cons_succ] at hSw ⊢); go_simp; (try with_reducible rfl))
      try simp only [Act.put, List.getElem_toArray, List.getElem_cons_zero, List.getElem_cons_succ, List.setIfInBounds_toArray, List.set_cons_zero, List.set_cons_succ]
      refine wpAnyH_take (i := 11) (oi := _) (v := ?_) rfl (by kernel_rfl) (by kernel_rfl) (by kernel_rfl) (fun _ _ _ h => h) (Or.inl ⟨by rfl, ?_⟩) (by assumption) ?_
      case refine_2 => (intro w hSw; (try dsimp only [List.getElem_toArray, List.getElem_cons_zero, List.getElem_cons_succ] at hSw ⊢); go_simp; (try with_reducible rfl))
      try simp only [Act.put, List.getElem_toArray, List.getElem_cons_zero, List.getElem_cons_succ, List.setIfInBounds_toArray, List.set_cons_zero, List.set_cons_succ]
      refine wpAnyH_take (i := 12) (oi := _) (v := ?_) rfl (by kernel_rfl) (by kernel_rfl) (by kernel_rfl) (fun _ _ _ h => h) (Or.inl ⟨by rfl, ?_⟩) (by assumption) ?_
      case refine_2 => (intro w hSw; (try dsimp only [List.getElem_toArray, List.getElem_cons_zero, List.getElem_cons_succ] at hSw ⊢); go_simp; (try with_reducible rfl))
      try simp only [Act.put, List.getElem_toArray, List.getElem_cons_zero, List.getElem_cons_succ, List.setIfInBounds_toArray, List.set_cons_zero, List.set_cons_succ]
      refine wpAnyH_take (i := 16) (oi := _) (v := ?_) rfl (by kernel_rfl) (by kernel_rfl) (by kernel_rfl) (fun _ _ _ h => h) (Or.inl ⟨by rfl, ?_⟩) (by assumption) ?_
      case refine_2 => (intro w hSw; (try dsimp only [List.getElem_toArray, List.getElem_cons_zero, List.getElem_cons_succ] at hSw ⊢); go_simp; (try with_reducible rfl))
      try simp only [Act.put, List.getElem_toArray, List.getElem_cons_zero, List.getElem_cons_succ, List.setIfInBounds_toArray, List.set_cons_zero, List.set_cons_succ]
      refine wpAnyH_take (i := 17) (oi := _) (v := ?_) rfl (by kernel_rfl) (by kernel_rfl) (by kernel_rfl) (fun _ _ _ h => h) (Or.inl ⟨by rfl, ?_⟩) (by assumption) ?_
      case refine_2 => (intro w hSw; (try dsimp only [List.getElem_toArray, List.getElem_cons_zero, List.getElem_cons_succ] at hSw ⊢); go_simp; (try with_reducible rfl))
      try simp only [Act.put, List.getElem_toArray, List.getElem_cons_zero, List.getElem_cons_succ, List.setIfInBounds_toArray, List.set_cons_zero, List.set_cons_succ]
      refine wpAnyH_take (i := 21) (oi := _) (v := ?_) rfl (by kernel_rfl) (by kernel_rfl) (by kernel_rfl) (fun _ _ _ h => h) (Or.inl ⟨by rfl, ?_⟩) (by assumption) ?_
      case refine_2 => (intro w hSw; (try dsimp only [List.getElem_toArray, List.getElem_cons_zero, List.getElem_cons_succ] at hSw ⊢); go_simp; (try with_reducible rfl))
      try simp only [Act.put, List.getElem_toArray, List.getElem_cons_zero, List.getElem_cons_succ, List.setIfInBounds_toArray, List.set_cons_zero, List.set_cons_succ]
      refine wpAnyH_ready (rs := [2]) (by kernel_rfl) (by simp) ?_
      refine (AllReadyH.cons (o := _) (by simp only [List.getElem?_toArray, List.getElem?_cons_zero, List.getElem?_cons_succ]; rfl) (fun K hK => ?_) AllReadyH.nil)
      go_simp
      go_at_call 27
      (with_reducible refine Calls.mono (HD1.out _) ?_)
      rintro e wn ⟨rfl, h⟩
      have HWn := Aside0.mk (HW.out.drew.trans (h.mono HW.out.size))
      clear HW h
      obtain ⟨wm, rfl⟩ : ∃ wz : World, wz = wn := ⟨_, rfl⟩
      have HW := Aside0.mk HWn.out
      clear HWn
      go_wp2_with (fail)
      refine hK.out _ _ ?_ (fun hHeld2 => ?_)
      · first | exact HS.out _ (HW.out.drew) | exact HS.out _ HW.out | exact HS.out _ (HW.out.trans (HWc.out.mono HW.out.size))
      clear hK K hHeld
      have hHeld := hHeld2
      clear hHeld2
      try simp only [Act.put, List.getElem_toArray, List.getElem_cons_zero, List.getElem_cons_succ, List.setIfInBounds_toArray, List.set_cons_zero, List.set_cons_succ]
      refine wpAnyH_take (i := 3) (oi := _) (v := ?_) rfl (by kernel_rfl) (by kernel_rfl) (by kernel_rfl) (fun _ _ _ h => h) (Or.inl ⟨by rfl, ?_⟩) (by assumption) ?_
      case refine_2 => (intro w hSw; (try dsimp only [List.getElem_toArray, List.getElem_cons_zero, List.getElem_cons_succ] at hSw ⊢); go_simp; (try with_reducible rfl))
      try simp only [Act.put, List.getElem_toArray, List.getElem_cons_zero, List.getElem_cons_succ, List.setIfInBounds_toArray, List.set_cons_zero, List.set_cons_succ]
      refine wpAnyH_take (i := 4) (oi := _) (v := ?_) rfl (by kernel_rfl) (by kernel_rfl) (by kernel_rfl) (fun _ _ _ h => h) (Or.inl ⟨by rfl, ?_⟩) (by assumption) ?_
      case refine_2 => (intro w hSw; (try dsimp only [List.getElem_toArray, List.getElem_cons_zero, List.getElem_cons_succ] at hSw ⊢); go_simp; (try with_reducible rfl))
      try simp only [Act.put, List.getElem_toArray, List.getElem_cons_zero, List.getElem_cons_succ, List.setIfInBounds_toArray, List.set_cons_zero, List.set_cons_succ]
      refine wpAnyH_ready (rs := [7]) (by kernel_rfl) (by simp) ?_
      refine (AllReadyH.cons (o := _) (by simp only [List.getElem?_toArray, List.getElem?_cons_zero, List.getElem?_cons_succ]; rfl) (fun K hK => ?_) AllReadyH.nil)
      go_simp
      go_at_call 27
      (with_reducible refine Calls.mono (HD2.out _) ?_)
      rintro e wn ⟨rfl, h⟩
      have HWn := Aside0.mk (HW.out.trans (h.mono HW.out.size))
      clear HW h
      obtain ⟨wm, rfl⟩ : ∃ wz : World, wz = wn := ⟨_, rfl⟩
      have HW := Aside0.mk HWn.out
      clear HWn
      go_wp2_with (fail)
      refine hK.out _ _ ?_ (fun hHeld2 => ?_)
      · first | exact HS.out _ (HW.out.drew) | exact HS.out _ HW.out | exact HS.out _ (HW.out.trans (HWc.out.mono HW.out.size))
      clear hK K hHeld
      have hHeld := hHeld2
      clear hHeld2
      try simp only [Act.put, List.getElem_toArray, List.getElem_cons_zero, List.getElem_cons_succ, List.setIfInBounds_toArray, List.set_cons_zero, List.set_cons_succ]
      refine wpAnyH_take (i := 8) (oi := _) (v := ?_) rfl (by kernel_rfl) (by kernel_rfl) (by kernel_rfl) (fun _ _ _ h => h) (Or.inl ⟨by rfl, ?_⟩) (by assumption) ?_
      case refine_2 => (intro w hSw; (try dsimp only [List.getElem_toArray, List.getElem_cons_zero, List.getElem_cons_succ] at hSw ⊢); go_simp; (try with_reducible rfl))
      try simp only [Act.put, List.getElem_toArray, List.getElem_cons_zero, List.getElem_cons_succ, List.setIfInBounds_toArray, List.set_cons_zero, List.set_cons_succ]
      refine wpAnyH_take (i := 9) (oi := _) (v := ?_) rfl (by kernel_rfl) (by kernel_rfl) (by kernel_rfl) (fun _ _ _ h => h) (Or.inl ⟨by rfl, ?_⟩) (by assumption) ?_
      case refine_2 => (intro w hSw; (try dsimp only [List.getElem_toArray, List.getElem_cons_zero, List.getElem_cons_succ] at hSw ⊢); go_simp; (try with_reducible rfl))
      try simp only [Act.put, List.getElem_toArray, List.getElem_cons_zero, List.getElem_cons_succ, List.setIfInBounds_toArray, List.set_cons_zero, List.set_cons_succ]
      refine wpAnyH_ready (rs := [13]) (by kernel_rfl) (by simp) ?_
      refine (AllReadyH.cons (o := _) (by simp only [List.getElem?_toArray, List.getElem?_cons_zero, List.getElem?_cons_succ]; rfl) (fun K hK => ?_) AllReadyH.nil)
      go_simp
      go_at_call 27
      (with_reducible refine Calls.mono (HD3.out _) ?_)
      rintro e wn ⟨rfl, h⟩
      have HWn := Aside0.mk (HW.out.trans (h.mono HW.out.size))
      clear HW h
      obtain ⟨wm, rfl⟩ : ∃ wz : World, wz = wn := ⟨_, rfl⟩
      have HW := Aside0.mk HWn.out
      clear HWn
      go_wp2_with (fail)
      refine hK.out _ _ ?_ (fun hHeld2 => ?_)
      · first | exact HS.out _ (HW.out.drew) | exact HS.out _ HW.out | exact HS.out _ (HW.out.trans (HWc.out.mono HW.out.size))
      clear hK K hHeld
      have hHeld := hHeld2
      clear hHeld2
      try simp only [Act.put, List.getElem_toArray, List.getElem_cons_zero, List.getElem_cons_succ, List.setIfInBounds_toArray, List.set_cons_zero, List.set_cons_succ]
      refine wpAnyH_take (i := 14) (oi := _) (v := ?_) rfl (by kernel_rfl) (by kernel_rfl) (by kernel_rfl) (fun _ _ _ h => h) (Or.inl ⟨by rfl, ?_⟩) (by assumption) ?_
      case refine_2 => (intro w hSw; (try dsimp only [List.getElem_toArray, List.getElem_cons_zero, List.getElem_cons_succ] at hSw ⊢); go_simp; (try with_reducible rfl))
      try simp only [Act.put, List.getElem_toArray, List.getElem_cons_zero, List.getElem_cons_succ, List.setIfInBounds_toArray, List.set_cons_zero, List.set_cons_succ]
      refine wpAnyH_take (i := 15) (oi := _) (v := ?_) rfl (by kernel_rfl) (by kernel_rfl) (by kernel_rfl) (fun _ _ _ h => h) (Or.inl ⟨by rfl, ?_⟩) (by assumption) ?_
      case refine_2 => (intro w hSw; (try dsimp only [List.getElem_toArray, List.getElem_cons_zero, List.getElem_cons_succ] at hSw ⊢); go_simp; (try with_reducible rfl))
      try simp only [Act.put, List.getElem_toArray, List.getElem_cons_zero, List.getElem_cons_succ, List.setIfInBounds_toArray, List.set_cons_zero, List.set_cons_succ]
      refine wpAnyH_ready (rs := [18]) (by kernel_rfl) (by simp) ?_
      refine (AllReadyH.cons (o := _) (by simp only [List.getElem?_toArray, List.getElem?_cons_zero, List.getElem?_cons_succ]; rfl) (fun K hK => ?_) AllReadyH.nil)
      go_simp
      go_at_call 27
      (with_reducible refine Calls.mono (HD4.out _) ?_)
      rintro e wn ⟨rfl, h⟩
      have HWn := Aside0.mk (HW.out.trans (h.mono HW.out.size))
      clear HW h
      obtain ⟨wm, rfl⟩ : ∃ wz : World, wz = wn := ⟨_, rfl⟩
      have HW := Aside0.mk HWn.out
      clear HWn
      go_wp2_with (fail)
      refine hK.out _ _ ?_ (fun hHeld2 => ?_)
      · first | exact HS.out _ (HW.out.drew) | exact HS.out _ HW.out | exact HS.out _ (HW.out.trans (HWc.out.mono HW.out.size))
      clear hK K hHeld
      have hHeld := hHeld2
      clear hHeld2
      try simp only [Act.put, List.getElem_toArray, List.getElem_cons_zero, List.getElem_cons_succ, List.setIfInBounds_toArray, List.set_cons_zero, List.set_cons_succ]
      refine wpAnyH_take (i := 19) (oi := _) (v := ?_) rfl (by kernel_rfl) (by kernel_rfl) (by kernel_rfl) (fun _ _ _ h => h) (Or.inl ⟨by rfl, ?_⟩) (by assumption) ?_
      case refine_2 => (intro w hSw; (try dsimp only [List.getElem_toArray, List.getElem_cons_zero, List.getElem_cons_succ] at hSw ⊢); go_simp; (try with_reducible rfl))
      try simp only [Act.put, List.getElem_toArray, List.getElem_cons_zero, List.getElem_cons_succ, List.setIfInBounds_toArray, List.set_cons_zero, List.set_cons_succ]
      refine wpAnyH_take (i := 20) (oi := _) (v := ?_) rfl (by kernel_rfl) (by kernel_rfl) (by kernel_rfl) (fun _ _ _ h => h) (Or.inl ⟨by rfl, ?_⟩) (by assumption) ?_
      case refine_2 => (intro w hSw; (try dsimp only [List.getElem_toArray, List.getElem_cons_zero, List.getElem_cons_succ] at hSw ⊢); go_simp; (try with_reducible rfl))
      try simp only [Act.put, List.getElem_toArray, List.getElem_cons_zero, List.getElem_cons_succ, List.setIfInBounds_toArray, List.set_cons_zero, List.set_cons_succ]
      refine wpAnyH_ready (rs := [22]) (by kernel_rfl) (by simp) ?_
      refine (AllReadyH.cons (o := _) (by simp only [List.getElem?_toArray, List.getElem?_cons_zero, List.getElem?_cons_succ]; rfl) (fun K hK => ?_) AllReadyH.nil)
      go_simp
      go_at_call 28
      (with_reducible refine Calls.mono (HLG.out _ HW.out) ?_)
      rintro e wn ⟨rfl, h⟩
      have HWn := Aside0.mk (HW.out.trans (h.mono HW.out.size))
      clear HW h
      obtain ⟨wm, rfl⟩ : ∃ wz : World, wz = wn := ⟨_, rfl⟩
      have HW := Aside0.mk HWn.out
      clear HWn
      go_wp2_with (fail)
      refine hK.out _ _ ?_ (fun hHeld2 => ?_)
      · first | exact HS.out _ (HW.out.drew) | exact HS.out _ HW.out | exact HS.out _ (HW.out.trans (HWc.out.mono HW.out.size))
      clear hK K hHeld
      have hHeld := hHeld2
      clear hHeld2
      try simp only [Act.put, List.getElem_toArray, List.getElem_cons_zero, List.getElem_cons_succ, List.setIfInBounds_toArray, List.set_cons_zero, List.set_cons_succ]
      refine wpAnyH_ready (rs := [23]) (by kernel_rfl) (by simp) ?_
      refine (AllReadyH.cons (o := _) (by simp only [List.getElem?_toArray, List.getElem?_cons_zero, List.getElem?_cons_succ]; rfl) (fun K hK => ?_) AllReadyH.nil)
      go_simp
      go_at_call 27
      (with_reducible refine Calls.mono (HD5.out _) ?_)
      rintro e wn ⟨rfl, h⟩
      have HWn := Aside0.mk (HW.out.trans (h.mono HW.out.size))
      clear HW h
      obtain ⟨wm, rfl⟩ : ∃ wz : World, wz = wn := ⟨_, rfl⟩
      have HW := Aside0.mk HWn.out
      clear HWn
      go_wp2_with (fail)
      refine hK.out _ _ ?_ (fun hHeld2 => ?_)
      · first | exact HS.out _ (HW.out.drew) | exact HS.out _ HW.out | exact HS.out _ (HW.out.trans (HWc.out.mono HW.out.size))
      clear hK K hHeld
      have hHeld := hHeld2
      clear hHeld2
      try simp only [Act.put, List.getElem_toArray, List.getElem_cons_zero, List.getElem_cons_succ, List.setIfInBounds_toArray, List.set_cons_zero, List.set_cons_succ]
      refine wpAnyH_take (i := 24) (oi := _) (v := ?_) rfl (by kernel_rfl) (by kernel_rfl) (by kernel_rfl) (fun _ _ _ h => h) (Or.inl ⟨by rfl, ?_⟩) (by assumption) ?_
      case refine_2 => (intro w hSw; (try dsimp only [List.getElem_toArray, List.getElem_cons_zero, List.getElem_cons_succ] at hSw ⊢); go_simp; (try with_reducible rfl))
      try simp only [Act.put, List.getElem_toArray, List.getElem_cons_zero, List.getElem_cons_succ, List.setIfInBounds_toArray, List.set_cons_zero, List.set_cons_succ]
      refine wpAnyH_take (i := 25) (oi := _) (v := ?_) rfl (by kernel_rfl) (by kernel_rfl) (by kernel_rfl) (fun _ _ _ h => h) (Or.inl ⟨by rfl, ?_⟩) (by assumption) ?_
      case refine_2 => (intro w hSw; (try dsimp only [List.getElem_toArray, List.getElem_cons_zero, List.getElem_cons_succ] at hSw ⊢); go_simp; (try with_reducible rfl))
      try simp only [Act.put, List.getElem_toArray, List.getElem_cons_zero, List.getElem_cons_succ, List.setIfInBounds_toArray, List.set_cons_zero, List.set_cons_succ]
      refine wpAnyH_ready (rs := [26]) (by kernel_rfl) (by simp) ?_
      refine (AllReadyH.cons (o := _) (by simp only [List.getElem?_toArray, List.getElem?_cons_zero, List.getElem?_cons_succ]; rfl) (fun K hK => ?_) AllReadyH.nil)
      go_simp
      have HWc := Aside0.mk (Lib.bytesWorld_below wm 5 (str (B.head b cm)))
      refine hK.out _ _ ?_ (fun hHeld2 => ?_)
      · first | exact HS.out _ (HW.out.drew) | exact HS.out _ HW.out | exact HS.out _ (HW.out.trans (HWc.out.mono HW.out.size))
      clear hK K hHeld
      have hHeld := hHeld2
      clear hHeld2
      try simp only [Act.put, List.getElem_toArray, List.getElem_cons_zero, List.getElem_cons_succ, List.setIfInBounds_toArray, List.set_cons_zero, List.set_cons_succ]
      refine wpAnyH_take (i := 27) (oi := _) (v := ?_) rfl (by kernel_rfl) (by kernel_rfl) (by kernel_rfl) (fun _ _ _ h => h) (Or.inl ⟨by rfl, ?_⟩) (by assumption) ?_
      case refine_2 => (intro w hSw; (try dsimp only [List.getElem_toArray, List.getElem_cons_zero, List.getElem_cons_succ] at hSw ⊢); go_simp; (try with_reducible rfl))
      try simp only [Act.put, List.getElem_toArray, List.getElem_cons_zero, List.getElem_cons_succ, List.setIfInBounds_toArray, List.set_cons_zero, List.set_cons_succ]
      refine wpAnyH_done (by kernel_rfl) ?_ _
      obtain ⟨hd, hhd⟩ : ∃ hd, hd = B.head b cm := ⟨_, rfl⟩
      rw [← hhd]
      rw [← hhd] at HHL HX
      clear hhd
      obtain ⟨N, hN⟩ : ∃ N, N = (hd ++ cm).length := ⟨_, rfl⟩
      have hX3 := HX.out
      rw [← hN] at hX3
      have HN := Aside0.mk hN
      have HBT := Aside0.mk HW.out
      have HWw := Aside0.mk (HWB.out.trans (H2.out.mono HWB.out.size))
      clear hN
      by_cases hlong : 4096 < N
      · have HX2 := Aside0.mk (show X = ([], 2) by rw [hX3, if_pos hlong])
        have hl2 : (4096 : Int) < (N : Int) := by omega
        clear hX3
        go_wp2_with (first | ((with_reducible refine gate_builtin (b := .append) (xs := #[.tmp 38, .tmp 39]) rfl ?_); at_builtin; refine conv_append rfl (.tmp 38) (.tmp 39) rfl hd cm A5 _ c5 rfl rfl rfl (HC5.out.on HBT.out) HCP.out (by have := HCL.out; have := HHL.out; omega) N HN.out ?_; intro A9 c9 w9 h h'; have H9 := Aside0.mk h; have H9b := Aside0.mk h'; clear h h'))
        go_ret2
        refine ⟨⟨none, 0, by rw [HX2.out]; rfl, ?_⟩, HWw.out.trans ((HBT.out.trans (H9b.out.mono HBT.out.size)).mono HWw.out.size)⟩
        rw [HX2.out]
        exact Bt.none _
      · have HX2 := Aside0.mk (show X = (hd ++ cm, 0) by rw [hX3, if_neg hlong])
        have hl2 : (N : Int) ≤ 4096 := by omega
        clear hX3
        go_wp2_with (first | ((with_reducible refine gate_builtin (b := .append) (xs := #[.tmp 38, .tmp 39]) rfl ?_); at_builtin; refine conv_append rfl (.tmp 38) (.tmp 39) rfl hd cm A5 _ c5 rfl rfl rfl (HC5.out.on HBT.out) HCP.out (by have := HCL.out; have := HHL.out; omega) N HN.out ?_; intro A9 c9 w9 h h'; have H9 := Aside0.mk h; have H9b := Aside0.mk h'; clear h h'))
        go_ret2
        refine ⟨⟨A9, c9, by rw [HX2.out, ← HN.out]; rfl, ?_⟩, HWw.out.trans ((HBT.out.trans (H9b.out.mono HBT.out.size)).mono HWw.out.size)⟩
        rw [HX2.out]
        exact H9.out.bt
end Go.Proofs.YtpfmnkpmidjfjaaGreatDoor
/- What keep's Twin, TwinPaths and the reference's Plain answer. -/
namespace Go.Proofs.YtpfmnkpmidjfjaaGreatDoor
open Go.RowKit Go.Lib
open Go.Proofs.YtpfmnkpmidjfjaaGreatDoorW.PrintWords
set_option linter.unusedVariables false
set_option linter.unusedSimpArgs false
set_option maxRecDepth 100000 in
set_option maxHeartbeats 1000000 in
theorem twin_any {A : Option Addr} {c : Nat} {l : B.Bs} {w : World} (hb : Bt w A c l) (hl : l.length ≤ 1000000) :
    Calls Tryz.prog 12 #[.slice A l.length c] w fun e w' => (∃ A' c', e = .returned (.slice A' l.length c') ∧ Ow w.heap.size w' (.slice A' l.length c') l) ∧ Below w.heap.size w w' := by
  have HB := Aside0.mk hb
  clear hb
  go_enter Tryz.func12, Tryz.ntmps12
  go_wp2_with (first | ((with_reducible refine gate_builtin (b := .append) (xs := #[.tmp 4, .tmp 5]) rfl ?_); at_builtin; refine Kd.R_append_rows kb (w0 := w) w.heap.size rfl (.tmp 4) (.tmp 5) 25 5 (.int .u8 0) 1 rfl Tryz.underlying25 infoU8 rfl (by decide) (by omega) (.slice none 0 0) [] (nb l) A (nb l).length c (fun _ => True) (fun _ => False) rfl (by rw [nb_length]; rfl) (Kd.R_nil _ _ _ _ _) HB.out.rd (fun _ _ h => h) (fun _ h => h.elim) (fun _ _ => trivial) (Below.refl _ _) (Nat.le_refl _) (by have := nb_length l; simp; omega) ?_; intro v1 w1 h1 h2 _ _; have H1 := Aside0.mk h1; have H2 := Aside0.mk h2; clear h1 h2))
  go_ret
  have h1 := H1.out
  rw [List.nil_append] at h1
  have ho : Ow w.heap.size w1 v1 l := h1
  obtain ⟨A', c', e, _⟩ := ho.bt
  exact ⟨⟨A', c', by rw [← e]; rfl, by rw [← e]; exact ho⟩, H2.out⟩
end Go.Proofs.YtpfmnkpmidjfjaaGreatDoor
/- BundleLong, walked. -/
namespace Go.Proofs.YtpfmnkpmidjfjaaGreatDoor
open Go.RowKit Go.Lib
open Go.Proofs.YtpfmnkpmidjfjaaGreatDoorW.PrintWords Go.Proofs.YtpfmnkpmidjfjaaGreatDoorW.PrintLast Go.Proofs.YtpfmnkpmidjfjaaGreatDoorW.PrintMore
attribute [local go_sem] min2_int min_two
set_option linter.unusedVariables false
set_option linter.unusedSimpArgs false
/-- The law's bundle in memory: its recipient, its mail, itself. -/
structure LRows (W : World) (t h g : Nat) (A : Option Addr) (n cap : Nat) : Prop where
  rt : W.heap[t]? = some (.cells #[.bool false, .string { data := #[97] }, .string { data := #[98] }] 43 (0, 0))
  rh : W.heap[h]? = some (.cells #[.bool true, .string { data := #[] }, .string { data := #[] }, .slice (some ⟨t, 0, none⟩) 1 1, .slice A n cap, .bool false, .string { data := #[] }, .int .i64 0] 46 (0, 0))
  rg : W.heap[g]? = some (.cells #[.int .i64 0, .int .i64 1, .slice (some ⟨h, 0, none⟩) 1 1] 24 (0, 0))
theorem LRows.on {W W' : World} {t h g : Nat} {A : Option Addr} {n cap : Nat} (r : LRows W t h g A n cap) (hb : Below W.heap.size W W') : LRows W' t h g A n cap := ⟨row_on hb r.rt, row_on hb r.rh, row_on hb r.rg⟩
theorem LRows.bd {b : Nat} {w0 W w1 : World} {v : Value} {xs : B.Bs} {t h g : Nat} {A : Option Addr} {n cap : Nat} (r : LRows W t h g A n cap) (hd : Bd b w0 W v xs) (hg : W.grownBy w1 v.ownBlock) : LRows w1 t h g A n cap :=
  ⟨hd.row hg (by decide) r.rt, hd.row hg (by decide) r.rh, hd.row hg (by decide) r.rg⟩
theorem LRows.ne {W : World} {t h g : Nat} {A : Option Addr} {n cap : Nat} (r : LRows W t h g A n cap) : t ≠ h ∧ g ≠ h := by
  constructor
  · rintro rfl
    have := r.rt.symm.trans r.rh
    injection this with this
    injection this with _ h2
    cases h2
  · rintro rfl
    have := r.rg.symm.trans r.rh
    injection this with this
    injection this with _ h2
    cases h2
theorem LRows.store {W : World} {t h g : Nat} {A A' : Option Addr} {n cap n' cap' : Nat} (r : LRows W t h g A n cap) : LRows (W.setCell ⟨h, 4, none⟩ (.slice A' n' cap')) t h g A' n' cap' :=
  ⟨(Below.heap_setCell _ _ _ _ r.ne.1).trans r.rt, row8_4 _ r.rh, (Below.heap_setCell _ _ _ _ r.ne.2).trans r.rg⟩
theorem LRows.bn {W : World} {t h g : Nat} {A : Option Addr} {cap : Nat} {L : B.Bs} (r : LRows W t h g A L.length cap) (hb : Bt W A cap L) : Bn W (B.xBun L) (some ⟨h, 0, none⟩) 1 :=
  ⟨Nat.le_refl _, C_one kMail r.rh (kMail_mk (m := B.xMail L) (A := some ⟨t, 0, none⟩) (c := 1) (A2 := A) (c2 := cap) ⟨Nat.le_refl _, C_one kPath r.rt (kPath_mk W ⟨false, [97], [98]⟩), hb⟩)⟩
theorem xfit {L : B.Bs} (h : L.length ≤ 100000) : B.FitB (B.xBun L) := ⟨by show 1 ≤ 1000; omega, fun m hm => by
  obtain rfl : m = B.xMail L := List.mem_singleton.1 hm
  exact ⟨⟨by simp [B.xMail], by simp [B.xMail]⟩, (fun p hp => by
    obtain rfl : p = ⟨false, [97], [98]⟩ := List.mem_singleton.1 hp
    exact ⟨by simp, by simp⟩), by simp [B.xMail], h, by simp [B.xMail]⟩⟩
theorem x_rbytes {W : World} {t h g : Nat} {A : Option Addr} {cap : Nat} {L : B.Bs} (r : LRows W t h g A L.length cap) (hb : Bt W A cap L) (hl : L.length ≤ 100000) (X1 : B.Bs) (X2 : Int) (hX : B.bytes (B.xBun L) = (X1, X2)) :
    Calls Tryz.prog 14 #[.agg #[.int .i64 0, .int .i64 1, .slice (some ⟨h, 0, none⟩) 1 1]] W fun e w' => (∃ A1 c1, e = .returned (.tuple #[.slice A1 X1.length c1, .int .i64 X2]) ∧ Bt w' A1 c1 X1) ∧ Below W.heap.size W w' := by
  have h := rbytes_any (B.xBun L) (some ⟨h, 0, none⟩) 1 W (r.bn hb) (xfit hl)
  rw [hX] at h
  exact h
theorem Bd.set {b : Nat} {w0 W : World} {v : Value} {xs : B.Bs} (hd : Bd b w0 W v xs) {h : Nat} {cells : Array Value} (hr : W.heap[h]? = some (.cells cells 46 (0, 0))) (hb : b ≤ h) (j : Nat) (u : Value) : Bd b w0 (W.setCell ⟨h, j, Option.none⟩ u) v xs :=
  ⟨hd.be.setCell hb _, R_set hd.ow _ hr byteE, by rw [World.size_setCell]; exact hd.sz⟩
theorem l_rows (w : World) (a b c d : Obj) : ((((w.alloc a).alloc b).alloc c).alloc d).heap[w.heap.size]? = some a ∧ ((((w.alloc a).alloc b).alloc c).alloc d).heap[w.heap.size + 2]? = some c ∧ ((((w.alloc a).alloc b).alloc c).alloc d).heap[w.heap.size + 3]? = some d := by
  have s1 : (w.alloc a).heap.size = w.heap.size + 1 := Array.size_push _
  have s2 : ((w.alloc a).alloc b).heap.size = w.heap.size + 2 := (Array.size_push _).trans (by rw [s1])
  have s3 : (((w.alloc a).alloc b).alloc c).heap.size = w.heap.size + 3 := (Array.size_push _).trans (by rw [s2])
  have up : ∀ (W : World) (x : Obj), Below W.heap.size W (W.alloc x) := fun W x => (Below.refl _ _).alloc (Nat.le_refl _) _
  refine ⟨row_on (up _ d) (row_on (up _ c) (row_on (up _ b) (heap_alloc_new w a))), row_on (up _ d) ?_, ?_⟩
  · have := heap_alloc_new ((w.alloc a).alloc b) c
    rw [s2] at this
    exact this
  · have := heap_alloc_new (((w.alloc a).alloc b).alloc c) d
    rw [s3] at this
    exact this
theorem mod_two (x : Int) : ∃ a : Nat, wrap64 ((IntKind.u64.wrap x).tmod 2) = (a : Int) ∧ a < 2 := by
  have hu : 0 ≤ IntKind.u64.wrap x := by
    have : IntKind.u64.wrap x = x % 18446744073709551616 := by simp [IntKind.wrap, IntKind.bits, IntKind.signed]
    rw [this]; omega
  obtain ⟨y, hy⟩ := Int.eq_ofNat_of_zero_le hu
  rw [hy]
  refine ⟨y % 2, ?_, Nat.mod_lt _ (by decide)⟩
  rw [show ((y : Int).tmod 2) = ((y % 2 : Nat) : Int) from by rw [Int.tmod_eq_emod_of_nonneg (Int.natCast_nonneg _)]; omega]
  have := Nat.mod_lt y (show 0 < 2 by decide)
  generalize y % 2 = z at *
  exact IntWalk.wrap64_in _ (by omega)
set_option maxRecDepth 100000 in
set_option maxHeartbeats 16000000 in
theorem long_walk (over : Int) (w : World) (hv : Vars w) :
    Calls Tryz.prog 8 #[.int .i64 over] w fun e w' => e = .returned (.bool true) ∧ Below w.heap.size w w' := by
  have HV := Aside0.mk hv
  clear hv
  go_enter Tryz.func8, Tryz.ntmps8
  go_upto_region 3 with (fail)
  obtain ⟨ov, hov, hov2⟩ := mod_two over
  rw [hov]
  clear hov
  go_cut [4] (fun v4 wc => ∃ t h g : Nat, v4 = .pointer (some ⟨g, 0, none⟩) ∧ Aside0 (LRows wc t h g none 0 0) ∧ Aside0 (Below w.heap.size w wc) ∧ Aside0 (w.heap.size ≤ h))
  case first =>
    go_wp2_with (fail)
    go_meet
    case rel => exact ⟨w.heap.size, w.heap.size + 2, w.heap.size + 3, rfl, ⟨(l_rows w _ _ _ _).1, (l_rows w _ _ _ _).2.1, (l_rows w _ _ _ _).2.2⟩, ⟨(((((Below.refl w.heap.size w).alloc (Nat.le_refl _) _).alloc (by simp) _).alloc (by simp <;> omega) _).alloc (by simp <;> omega) _)⟩, ⟨by omega⟩⟩
  case rest =>
  obtain ⟨t, h, g, rfl, HR0, HW0, HH0⟩ := hcut
  obtain ⟨w1, rfl⟩ : ∃ wz : World, wz = wc := ⟨_, rfl⟩
  apply_assumption
  go_upto_block 0 with (fail)
  go_cut [] (fun wc => ∃ (us : List B.Bs) (A : Option Addr) (cap : Nat), Aside0 (B.isX us ∧ (B.joined us).length ≤ 4020) ∧ Aside0 (LRows wc t h g A (B.joined us).length cap) ∧ Aside0 (Bd w.heap.size w wc (.slice A (B.joined us).length cap) (B.joined us)))
  case first =>
    go_wp2_with (fail)
    go_loopg [5] 3000 (fun gf v5 wr => ∃ (k : Nat) (us : List B.Bs) (A : Option Addr) (cap : Nat), v5 = .int .i64 k ∧ k ≤ 3000 ∧ gf + k = 3000 ∧ Aside0 (B.isX us ∧ (B.joined us).length ≤ 4020) ∧ Aside0 (LRows wr t h g A (B.joined us).length cap) ∧ Aside0 (Bd w.heap.size w wr (.slice A (B.joined us).length cap) (B.joined us)))
    case atStart => exact ⟨0, [], none, 0, rfl, by omega, by omega, ⟨⟨(fun u hu => by cases hu), (by decide)⟩⟩, ⟨HR0.out⟩, ⟨HW0.out, Ow.none _ _, HW0.out.size⟩⟩
    case round =>
      obtain ⟨k, us, A, cap, rfl, hk, hgk, HU, HR, HD⟩ := hrel
      obtain ⟨wx, rfl⟩ : ∃ wz : World, wz = wr := ⟨_, rfl⟩
      obtain ⟨go, rfl⟩ : ∃ z : Nat, z = gk := ⟨_, rfl⟩
      obtain ⟨L, hL⟩ : ∃ L, L = B.joined us := ⟨_, rfl⟩
      have HL := Aside0.mk hL
      rw [← hL] at HR HD
      have hLl : L.length ≤ 4020 := by rw [hL]; exact HU.out.2
      have hxb := B.x_bytes HU.out.1 HU.out.2
      rw [← hL] at hxb
      obtain ⟨X1, X2, hX⟩ : ∃ X1 X2, B.bytes (B.xBun L) = (X1, X2) := ⟨_, _, rfl⟩
      rw [hX] at hxb
      obtain ⟨hx2, hx3, hx4⟩ := hxb
      simp only at hx2 hx3 hx4
      subst hx2
      have hX1l : X1.length ≤ 4096 := by omega
      have HX := Aside0.mk hX
      clear hL hX
      by_cases hk3 : k < 3000
      · have hk3I : (k : Int) < 3000 := by omega
        obtain ⟨b0, b1, b2, g0, g1, g2⟩ := cells3 HR.out.rg
        have HRB := Aside0.mk (x_rbytes HR.out HD.out.ow.bt' (by omega) X1 0 HX.out)
        obtain ⟨lf, hlf⟩ : ∃ lf : Nat, lf = 4096 - X1.length := ⟨_, rfl⟩
        have hlfI : (4096 : Int) - (X1.length : Int) = (lf : Int) := by omega
        have hXI : (X1.length : Int) ≤ 4096 := by omega
        have h0X : (0 : Int) ≤ (X1.length : Int) := by omega
        have HLF := Aside0.mk hlf
        clear hlf
        by_cases h40 : lf < 40
        · have h40I : (lf : Int) < 40 := by omega
          go_wp2_with (first | (go_at_call 14; (with_reducible refine Calls.mono HRB.out ?_); rintro e w5 ⟨⟨A5, c5, rfl, hb5⟩, h⟩; have HW5 := Aside0.mk h; have HB5 := Aside0.mk hb5; (clear h hb5)))
          go_meet
          case rel => exact ⟨us, A, cap, HU, ⟨by rw [← HL.out]; exact HR.out.on HW5.out⟩, ⟨by rw [← HL.out]; exact HD.out.go HW5.out⟩⟩
        · have h40I : (40 : Int) ≤ (lf : Int) := by omega
          have h40d : decide ((lf : Int) < 40) = false := by simp; omega
          have h40e : decide (lf < 40) = false := by simp; omega
          obtain ⟨n, hn⟩ : ∃ n : Nat, n = min (lf - 20) 400 := ⟨_, rfl⟩
          have hn2 : 20 ≤ n ∧ n ≤ 400 ∧ n + 20 ≤ lf := by omega
          have hs0 : wrap64 ((lf : Int) - 20) = (lf : Int) - 20 := by have := HLF.out; exact IntWalk.wrap64_in _ (by omega)
          have hlf4 : (lf : Int) ≤ 4096 := by have := HLF.out; omega
          go_upto_region 12 with (first | (go_at_call 14; (with_reducible refine Calls.mono HRB.out ?_); rintro e w5 ⟨⟨A5, c5, rfl, hb5⟩, h⟩; have HW5 := Aside0.mk h; have HB5 := Aside0.mk hb5; (clear h hb5)))
          obtain ⟨wy, rfl⟩ : ∃ wz : World, wz = w5 := ⟨_, rfl⟩
          have HRy := Aside0.mk (HR.out.on HW5.out)
          have HDy := Aside0.mk (HD.out.go HW5.out)
          clear b0 b1 b2 g0 g1 g2
          go_cut [9] (fun v9 wc => v9 = .int .i64 (n : Int) ∧ wc = wy)
          case first =>
            by_cases h420 : (400 : Int) < (lf : Int) - 20
            · have hne : n = 400 := by omega
              have HN := Aside0.mk hne
              clear hn hne hn2
              go_wp2_with (fail)
              go_meet
              case rel => exact ⟨by rw [HN.out]; rfl, rfl⟩
            · have hne : (n : Int) = (lf : Int) - 20 := by omega
              have h421 : (lf : Int) - 20 ≤ 400 := by omega
              have HN := Aside0.mk hne
              clear hn hne hn2
              go_wp2_with (fail)
              go_meet
              case rel => exact ⟨by rw [HN.out], rfl⟩
          case rest =>
          obtain ⟨rfl, rfl⟩ := hcut
          obtain ⟨wy, rfl⟩ : ∃ wz : World, wz = wc := ⟨_, rfl⟩
          apply_assumption
          obtain ⟨n1, n2, n3⟩ := hn2
          obtain ⟨q, hq⟩ : ∃ q : Nat, q = n - 2 := ⟨_, rfl⟩
          have hqI : (n : Int) - 2 = (q : Int) := by omega
          have hnI : (n : Int) ≤ 400 := by omega
          have h0n : (20 : Int) ≤ (n : Int) := by omega
          have HQ := Aside0.mk hq
          have hq4 : q ≤ 400 := by omega
          clear hn hq
          go_wp2_with (fail)
          go_loopg [10, 11] q (fun gf v10 v11 wr => ∃ (i : Nat) (A1 : Option Addr) (c1 : Nat), v10 = .slice A1 i c1 ∧ v11 = .int .i64 i ∧ i ≤ q ∧ gf + i = q ∧ Aside0 (Bd wy.heap.size wy wr (.slice A1 i c1) (List.replicate i 120)))
          case atStart => exact ⟨0, none, 0, rfl, rfl, by omega, by omega, ⟨Bd.none wy⟩⟩
          case round =>
            obtain ⟨i, A1, c1, rfl, rfl, hi, hgi, HDl⟩ := hrel
            obtain ⟨wz, rfl⟩ : ∃ wz : World, wz = wr := ⟨_, rfl⟩
            obtain ⟨gi, rfl⟩ : ∃ z : Nat, z = gk := ⟨_, rfl⟩
            have h0i : (0 : Int) ≤ (i : Int) := by omega
            have hi4 : (i : Int) ≤ 400 := by omega
            by_cases hlt : i < q
            · have hltI : (i : Int) < (q : Int) := by omega
              go_wp2_with (first | ((with_reducible refine gate_builtin (b := .append) (xs := #[.tmp 57, .tmp 58]) rfl ?_); at_builtin; refine bd_append2 rfl (.tmp 57) (.tmp 58) rfl _ _ [120] _ _ _ rfl rfl rfl (HDl.out.alloc _) (Bt.lit [120] (heap_alloc_new _ _) rfl (by decide)) (by rw [List.length_replicate]; simp; omega) ?_; intro v7 w7 h _ _; obtain ⟨A7, c7, e7, _⟩ := Ow.bt h.ow; rw [List.length_append, List.length_replicate, List.length_singleton] at e7; subst e7; have HD7 := Aside0.mk h; clear h))
              go_roundg (gi - 1)
              case measure => omega
              case rel => exact ⟨i + 1, A7, c7, by rfl, by go_num, by omega, by omega, ⟨by rw [List.replicate_succ']; exact HD7.out⟩⟩
            · obtain rfl : i = q := by omega
              have t1 : decide ((i : Int) < (i : Int)) = false := by simp
              clear hlt
              have HRz := Aside0.mk (HRy.out.on HDl.out.be)
              have HDz := Aside0.mk (HDy.out.go HDl.out.be)
              have HBl := Aside0.mk (show Bt wz A1 c1 (List.replicate i 120) from Ow.bt' HDl.out.ow)
              have hst := B.x_step HU.out.1 HU.out.2 n (by omega) (by rw [← HL.out, HX.out]; have := HLF.out; show X1.length + n + 20 ≤ 4096; omega)
              have HST := Aside0.mk hst
              have HRL := Aside0.mk (show (List.replicate i (120 : UInt8)).length = i from List.length_replicate)
              clear hst
              go_upto_region 18 with (fail)
              clear h0i hi4 hi hgi t1 h40 h40I h40d h40e hlfI hs0 hlf4
              have hli : L.length ≤ 4020 := hLl
              have HS := Aside0.mk (fun (W : World) (A' : Option Addr) (n' c' : Nat) (r : LRows W t h g A' n' c') => (cells3 r.rg).2.2.1)
              obtain ⟨c0, hc0⟩ : ∃ c0 : Nat, c0 = 2 := ⟨_, rfl⟩
              have HDd := Aside0.mk (HDz.out.go ((Below.refl wz.heap.size wz).drew))
              have HRd := Aside0.mk (HRz.out.on ((Below.refl wz.heap.size wz).drew))
              have HBd := Aside0.mk (HBl.out.on ((Below.refl wz.heap.size wz).drew))
              have hld := (cells8 HRd.out.rh).1.2.2.2.2.1
              have HLD := Aside0.mk hld
              clear hld hc0
              refine wp_region_held_drew (S := (fun w' => w'.cell? ⟨g, 2, none⟩ = some (.slice (some ⟨h, 0, none⟩) 1 1))) (by kernel_rfl) ?_ (fun hHeld => ?_)
              · first | exact HS.out _ _ _ _ HRd.out | exact HS.out _ _ _ _ HRk.out | exact HS.out _ _ _ _ HRm.out | exact HS.out _ _ _ _ HRn.out | exact HS.out _ _ _ _ HRs.out
              refine wpAnyH_take (i := 0) (oi := _) (v := ?_) rfl (by kernel_rfl) (by kernel_rfl) (by kernel_rfl) (fun _ _ _ h => h) (Or.inl ⟨by rfl, ?_⟩) (by assumption) ?_
              case refine_2 => (intro w hSw; (try dsimp only [List.getElem_toArray, List.getElem_cons_zero, List.getElem_cons_succ] at hSw ⊢); go_simp; (try with_reducible rfl))
              try simp only [Act.put, List.getElem_toArray, List.getElem_cons_zero, List.getElem_cons_succ, List.setIfInBounds_toArray, List.set_cons_zero, List.set_cons_succ]
              refine wpAnyH_take (i := 1) (oi := _) (v := ?_) rfl (by kernel_rfl) (by kernel_rfl) (by kernel_rfl) (fun _ _ _ h => h) (Or.inl ⟨by rfl, ?_⟩) (by assumption) ?_
              case refine_2 => (intro w hSw; (try dsimp only [List.getElem_toArray, List.getElem_cons_zero, List.getElem_cons_succ] at hSw ⊢); go_simp; (try with_reducible rfl))
              try simp only [Act.put, List.getElem_toArray, List.getElem_cons_zero, List.getElem_cons_succ, List.setIfInBounds_toArray, List.set_cons_zero, List.set_cons_succ]
              refine wpAnyH_take (i := 2) (oi := _) (v := ?_) rfl (by kernel_rfl) (by kernel_rfl) (by kernel_rfl) (fun _ _ _ h => h) (Or.inl ⟨by rfl, ?_⟩) (by assumption) ?_
              case refine_2 => (intro w hSw; (try dsimp only [List.getElem_toArray, List.getElem_cons_zero, List.getElem_cons_succ] at hSw ⊢); go_simp; (try with_reducible rfl))
              try simp only [Act.put, List.getElem_toArray, List.getElem_cons_zero, List.getElem_cons_succ, List.setIfInBounds_toArray, List.set_cons_zero, List.set_cons_succ]
              refine wpAnyH_take (i := 3) (oi := _) (v := ?_) rfl (by kernel_rfl) (by kernel_rfl) (by kernel_rfl) (fun _ _ _ h => h) (Or.inl ⟨by rfl, ?_⟩) (by assumption) ?_
              case refine_2 => (intro w hSw; (try dsimp only [List.getElem_toArray, List.getElem_cons_zero, List.getElem_cons_succ] at hSw ⊢); go_simp; (try with_reducible rfl))
              try simp only [Act.put, List.getElem_toArray, List.getElem_cons_zero, List.getElem_cons_succ, List.setIfInBounds_toArray, List.set_cons_zero, List.set_cons_succ]
              refine wpAnyH_take (i := 4) (oi := _) (v := ?_) rfl (by kernel_rfl) (by kernel_rfl) (by kernel_rfl) (fun _ _ _ h => h) (Or.inl ⟨by rfl, ?_⟩) (by assumption) ?_
              case refine_2 => (intro w hSw; (try dsimp only [List.getElem_toArray, List.getElem_cons_zero, List.getElem_cons_succ] at hSw ⊢); go_simp; (try with_reducible rfl))
              try simp only [Act.put, List.getElem_toArray, List.getElem_cons_zero, List.getElem_cons_succ, List.setIfInBounds_toArray, List.set_cons_zero, List.set_cons_succ]
              refine wpAnyH_take (i := 5) (oi := _) (v := ?_) rfl (by kernel_rfl) (by kernel_rfl) (by kernel_rfl) (fun _ _ _ h => h) (Or.inl ⟨by rfl, ?_⟩) (by assumption) ?_
              case refine_2 => (intro w hSw; (try dsimp only [List.getElem_toArray, List.getElem_cons_zero, List.getElem_cons_succ] at hSw ⊢); go_simp; (try with_reducible rfl))
              try simp only [Act.put, List.getElem_toArray, List.getElem_cons_zero, List.getElem_cons_succ, List.setIfInBounds_toArray, List.set_cons_zero, List.set_cons_succ]
              refine wpAnyH_take (i := 7) (oi := _) (v := ?_) rfl (by kernel_rfl) (by kernel_rfl) (by kernel_rfl) (fun _ _ _ h => h) (Or.inl ⟨by rfl, ?_⟩) (by assumption) ?_
              case refine_2 => (intro w hSw; (try dsimp only [List.getElem_toArray, List.getElem_cons_zero, List.getElem_cons_succ] at hSw ⊢); go_simp; (try with_reducible rfl))
              try simp only [Act.put, List.getElem_toArray, List.getElem_cons_zero, List.getElem_cons_succ, List.setIfInBounds_toArray, List.set_cons_zero, List.set_cons_succ]
              refine wpAnyH_ready (rs := [6, 9]) (by kernel_rfl) (by simp) ?_
              refine (AllReadyH.cons (o := _) (by simp only [List.getElem?_toArray, List.getElem?_cons_zero, List.getElem?_cons_succ]; rfl) (fun K hK => ?_) (AllReadyH.cons (o := _) (by simp only [List.getElem?_toArray, List.getElem?_cons_zero, List.getElem?_cons_succ]; rfl) (fun K hK => ?_) AllReadyH.nil))
              · skip
                have hld := HLD.out
                go_simp
                clear hld
                refine hK.out _ _ ?_ (fun hHeld2 => ?_)
                · first | exact HS.out _ _ _ _ HRd.out | exact HS.out _ _ _ _ HRk.out | exact HS.out _ _ _ _ HRm.out | exact HS.out _ _ _ _ HRn.out | exact HS.out _ _ _ _ HRs.out
                clear hK K hHeld
                have hHeld := hHeld2
                clear hHeld2
                try simp only [Act.put, List.getElem_toArray, List.getElem_cons_zero, List.getElem_cons_succ, List.setIfInBounds_toArray, List.set_cons_zero, List.set_cons_succ]
                refine wpAnyH_ready (rs := [8, 9]) (by kernel_rfl) (by simp) ?_
                refine (AllReadyH.cons (o := _) (by simp only [List.getElem?_toArray, List.getElem?_cons_zero, List.getElem?_cons_succ]; rfl) (fun K hK => ?_) (AllReadyH.cons (o := _) (by simp only [List.getElem?_toArray, List.getElem?_cons_zero, List.getElem?_cons_succ]; rfl) (fun K hK => ?_) AllReadyH.nil))
                · skip
                  refine bd_append2_step (by rfl) (.tmp 66) (.tmp 67) rfl _ _ (List.replicate i 120) _ _ _ rfl rfl (by rw [List.length_replicate]) HDd.out HBd.out (by rw [List.length_replicate]; omega) ?_
                  intro v8 wm hd8 hg8
                  have HDm := Aside0.mk hd8
                  have HRm := Aside0.mk (HRd.out.bd HDd.out hg8)
                  clear hd8 hg8
                  refine hK.out _ _ ?_ (fun hHeld2 => ?_)
                  · first | exact HS.out _ _ _ _ HRd.out | exact HS.out _ _ _ _ HRk.out | exact HS.out _ _ _ _ HRm.out | exact HS.out _ _ _ _ HRn.out | exact HS.out _ _ _ _ HRs.out
                  clear hK K hHeld
                  have hHeld := hHeld2
                  clear hHeld2
                  try simp only [Act.put, List.getElem_toArray, List.getElem_cons_zero, List.getElem_cons_succ, List.setIfInBounds_toArray, List.set_cons_zero, List.set_cons_succ]
                  refine wpAnyH_ready (rs := [9]) (by kernel_rfl) (by simp) ?_
                  refine (AllReadyH.cons (o := _) (by simp only [List.getElem?_toArray, List.getElem?_cons_zero, List.getElem?_cons_succ]; rfl) (fun K hK => ?_) AllReadyH.nil)
                  go_simp
                  have HDk := Aside0.mk (HDm.out.alloc (.cells #[.int .u8 13, .int .u8 10] 5))
                  have HRk := Aside0.mk (HRm.out.on ((Below.refl wm.heap.size wm).alloc (Nat.le_refl _) (.cells #[.int .u8 13, .int .u8 10] 5)))
                  have HBk := Aside0.mk (Bt.lit [13, 10] (heap_alloc_new wm (.cells #[.int .u8 13, .int .u8 10] 5)) rfl (by decide))
                  refine hK.out _ _ ?_ (fun hHeld2 => ?_)
                  · first | exact HS.out _ _ _ _ HRd.out | exact HS.out _ _ _ _ HRk.out | exact HS.out _ _ _ _ HRm.out | exact HS.out _ _ _ _ HRn.out | exact HS.out _ _ _ _ HRs.out
                  clear hK K hHeld
                  have hHeld := hHeld2
                  clear hHeld2
                  try simp only [Act.put, List.getElem_toArray, List.getElem_cons_zero, List.getElem_cons_succ, List.setIfInBounds_toArray, List.set_cons_zero, List.set_cons_succ]
                  obtain ⟨wk, hwk⟩ : ∃ wk, wk = wm.alloc (.cells #[.int .u8 13, .int .u8 10] 5) := ⟨_, rfl⟩
                  obtain ⟨gk9, hgk9⟩ : ∃ gk9, gk9 = wm.heap.size := ⟨_, rfl⟩
                  rw [← hwk] at HDk HRk HBk ⊢
                  rw [← hgk9] at HBk ⊢
                  clear hwk hgk9
                  refine wpAnyH_ready (rs := [10]) (by kernel_rfl) (by simp) ?_
                  refine (AllReadyH.cons (o := _) (by simp only [List.getElem?_toArray, List.getElem?_cons_zero, List.getElem?_cons_succ]; rfl) (fun K hK => ?_) AllReadyH.nil)
                  refine bd_append2_step (by rfl) (.tmp 68) (.tmp 69) rfl _ _ [13, 10] _ _ _ rfl rfl rfl HDk.out HBk.out (by rw [List.length_append, List.length_replicate]; show _ + 2 ≤ _; omega) ?_
                  intro v10 wn hd10 hg10
                  have HDn := Aside0.mk hd10
                  have HRn := Aside0.mk (HRk.out.bd HDk.out hg10)
                  clear hd10 hg10
                  refine hK.out _ _ ?_ (fun hHeld2 => ?_)
                  · first | exact HS.out _ _ _ _ HRd.out | exact HS.out _ _ _ _ HRk.out | exact HS.out _ _ _ _ HRm.out | exact HS.out _ _ _ _ HRn.out | exact HS.out _ _ _ _ HRs.out
                  clear hK K hHeld
                  have hHeld := hHeld2
                  clear hHeld2
                  try simp only [Act.put, List.getElem_toArray, List.getElem_cons_zero, List.getElem_cons_succ, List.setIfInBounds_toArray, List.set_cons_zero, List.set_cons_succ]
                  obtain ⟨A10, c10, e10, _⟩ := Ow.bt HDn.out.ow
                  obtain ⟨N10, hN10⟩ : ∃ N, N = (L ++ List.replicate i 120 ++ [13, 10]).length := ⟨_, rfl⟩
                  rw [← hN10] at e10
                  subst e10
                  have HN10 := Aside0.mk hN10
                  clear hN10
                  obtain ⟨_, _, _, _, y4, _⟩ := (cells8 HRn.out.rh).2
                  have hs4 := (cells8 HRn.out.rh).1.2.2.2.2.1
                  refine wpAnyH_take (i := 11) (oi := _) (v := ?_) rfl (by kernel_rfl) (by kernel_rfl) (by kernel_rfl) (fun _ _ _ h => h) (Or.inl ⟨by rfl, ?_⟩) (by assumption) ?_
                  case refine_2 => (intro w hSw; (try dsimp only [List.getElem_toArray, List.getElem_cons_zero, List.getElem_cons_succ] at hSw ⊢); go_simp; (try with_reducible rfl))
                  try simp only [Act.put, List.getElem_toArray, List.getElem_cons_zero, List.getElem_cons_succ, List.setIfInBounds_toArray, List.set_cons_zero, List.set_cons_succ]
                  refine wpAnyH_take (i := 12) (oi := _) (v := ?_) rfl (by kernel_rfl) (by kernel_rfl) (by kernel_rfl) (fun _ _ _ h => h) (Or.inl ⟨by rfl, ?_⟩) (by assumption) ?_
                  case refine_2 => (intro w hSw; (try dsimp only [List.getElem_toArray, List.getElem_cons_zero, List.getElem_cons_succ] at hSw ⊢); go_simp; (try with_reducible rfl))
                  try simp only [Act.put, List.getElem_toArray, List.getElem_cons_zero, List.getElem_cons_succ, List.setIfInBounds_toArray, List.set_cons_zero, List.set_cons_succ]
                  refine wpAnyH_ready (rs := [13]) (by kernel_rfl) (by simp) ?_
                  refine (AllReadyH.cons (o := _) (by simp only [List.getElem?_toArray, List.getElem?_cons_zero, List.getElem?_cons_succ]; rfl) (fun K hK => ?_) AllReadyH.nil)
                  go_simp
                  have HRs := Aside0.mk (HRn.out.store (A' := A10) (n' := N10) (cap' := c10))
                  refine hK.out _ _ ?_ (fun hHeld2 => ?_)
                  · first | exact HS.out _ _ _ _ HRd.out | exact HS.out _ _ _ _ HRk.out | exact HS.out _ _ _ _ HRm.out | exact HS.out _ _ _ _ HRn.out | exact HS.out _ _ _ _ HRs.out
                  clear hK K hHeld
                  have hHeld := hHeld2
                  clear hHeld2
                  try simp only [Act.put, List.getElem_toArray, List.getElem_cons_zero, List.getElem_cons_succ, List.setIfInBounds_toArray, List.set_cons_zero, List.set_cons_succ]
                  refine wpAnyH_done (by kernel_rfl) ?_ _
                  go_wp2_with (fail)
                  go_roundg (go - 1)
                  case measure => omega
                  case rel => exact ⟨k + 1, us ++ [List.replicate (n - 2) 120], A10, c10, by go_num, by omega, by omega, ⟨HST.out.1, by rw [HST.out.2.2.1]; exact HST.out.2.2.2⟩, ⟨by rw [HST.out.2.1, ← HL.out, ← HQ.out, ← HN10.out]; exact HRs.out⟩, ⟨by rw [HST.out.2.1, ← HL.out, ← HQ.out, ← HN10.out]; exact HDn.out.set HRn.out.rh HH0.out _ _⟩⟩
                · skip
                  go_simp
                  have HDk := Aside0.mk ((HDz.out.alloc (.cells #[.int .u8 13, .int .u8 10] 5)).go ((Below.refl _ _).drew))
                  have HRk := Aside0.mk ((HRz.out.on ((Below.refl wz.heap.size wz).alloc (Nat.le_refl _) (.cells #[.int .u8 13, .int .u8 10] 5))).on ((Below.refl _ _).drew))
                  have HBk := Aside0.mk (show ((wz.alloc (.cells #[.int .u8 13, .int .u8 10] 5)).drew).heap[wz.heap.size]? = some (.cells #[.int .u8 13, .int .u8 10] 5 (0, 0)) from heap_alloc_new _ _)
                  have HLT9 := Aside0.mk (Kd.R_lt HDz.out.ow)
                  have HBq := Aside0.mk ((HBl.out.on ((Below.refl wz.heap.size wz).alloc (Nat.le_refl _) (.cells #[.int .u8 13, .int .u8 10] 5))).on ((Below.refl _ _).drew))
                  refine hK.out _ _ ?_ (fun hHeld2 => ?_)
                  · first | exact HS.out _ _ _ _ HRd.out | exact HS.out _ _ _ _ HRk.out | exact HS.out _ _ _ _ HRm.out | exact HS.out _ _ _ _ HRn.out | exact HS.out _ _ _ _ HRs.out
                  clear hK K hHeld
                  have hHeld := hHeld2
                  clear hHeld2
                  try simp only [Act.put, List.getElem_toArray, List.getElem_cons_zero, List.getElem_cons_succ, List.setIfInBounds_toArray, List.set_cons_zero, List.set_cons_succ]
                  obtain ⟨wk, hwk⟩ : ∃ wk, wk = (wz.alloc (.cells #[.int .u8 13, .int .u8 10] 5)).drew := ⟨_, rfl⟩
                  obtain ⟨gk9, hgk9⟩ : ∃ gk9, gk9 = wz.heap.size := ⟨_, rfl⟩
                  rw [← hwk] at HDk HRk HBk HBq ⊢
                  rw [← hgk9] at HBk HLT9 ⊢
                  clear hwk hgk9
                  have hlk := (cells8 HRk.out.rh).1.2.2.2.2.1
                  have HLK := Aside0.mk hlk
                  clear hlk
                  refine wpAnyH_ready (rs := [8]) (by kernel_rfl) (by simp) ?_
                  refine (AllReadyH.cons (o := _) (by simp only [List.getElem?_toArray, List.getElem?_cons_zero, List.getElem?_cons_succ]; rfl) (fun K hK => ?_) AllReadyH.nil)
                  refine bd_append2_step (by rfl) (.tmp 66) (.tmp 67) rfl _ _ (List.replicate i 120) _ _ _ rfl rfl (by rw [List.length_replicate]) HDk.out HBq.out (by rw [List.length_replicate]; omega) ?_
                  intro v8 wm hd8 hg8
                  have HDm := Aside0.mk hd8
                  have HRm := Aside0.mk (HRk.out.bd HDk.out hg8)
                  have HBm := Aside0.mk (Bt.lit [13, 10] ((hg8.block gk9 (Array.getElem?_eq_some_iff.1 HBk.out).1 (fun e => absurd (HLT9.out gk9 e.symm) (Nat.lt_irrefl _))).trans HBk.out) rfl (by decide))
                  clear hd8 hg8
                  refine hK.out _ _ ?_ (fun hHeld2 => ?_)
                  · first | exact HS.out _ _ _ _ HRd.out | exact HS.out _ _ _ _ HRk.out | exact HS.out _ _ _ _ HRm.out | exact HS.out _ _ _ _ HRn.out | exact HS.out _ _ _ _ HRs.out
                  clear hK K hHeld
                  have hHeld := hHeld2
                  clear hHeld2
                  try simp only [Act.put, List.getElem_toArray, List.getElem_cons_zero, List.getElem_cons_succ, List.setIfInBounds_toArray, List.set_cons_zero, List.set_cons_succ]
                  refine wpAnyH_ready (rs := [10]) (by kernel_rfl) (by simp) ?_
                  refine (AllReadyH.cons (o := _) (by simp only [List.getElem?_toArray, List.getElem?_cons_zero, List.getElem?_cons_succ]; rfl) (fun K hK => ?_) AllReadyH.nil)
                  refine bd_append2_step (by rfl) (.tmp 68) (.tmp 69) rfl _ _ [13, 10] _ _ _ rfl rfl rfl HDm.out HBm.out (by rw [List.length_append, List.length_replicate]; show _ + 2 ≤ _; omega) ?_
                  intro v10 wn hd10 hg10
                  have HDn := Aside0.mk hd10
                  have HRn := Aside0.mk (HRm.out.bd HDm.out hg10)
                  clear hd10 hg10
                  refine hK.out _ _ ?_ (fun hHeld2 => ?_)
                  · first | exact HS.out _ _ _ _ HRd.out | exact HS.out _ _ _ _ HRk.out | exact HS.out _ _ _ _ HRm.out | exact HS.out _ _ _ _ HRn.out | exact HS.out _ _ _ _ HRs.out
                  clear hK K hHeld
                  have hHeld := hHeld2
                  clear hHeld2
                  try simp only [Act.put, List.getElem_toArray, List.getElem_cons_zero, List.getElem_cons_succ, List.setIfInBounds_toArray, List.set_cons_zero, List.set_cons_succ]
                  obtain ⟨A10, c10, e10, _⟩ := Ow.bt HDn.out.ow
                  obtain ⟨N10, hN10⟩ : ∃ N, N = (L ++ List.replicate i 120 ++ [13, 10]).length := ⟨_, rfl⟩
                  rw [← hN10] at e10
                  subst e10
                  have HN10 := Aside0.mk hN10
                  clear hN10
                  obtain ⟨_, _, _, _, y4, _⟩ := (cells8 HRn.out.rh).2
                  have hs4 := (cells8 HRn.out.rh).1.2.2.2.2.1
                  refine wpAnyH_take (i := 11) (oi := _) (v := ?_) rfl (by kernel_rfl) (by kernel_rfl) (by kernel_rfl) (fun _ _ _ h => h) (Or.inl ⟨by rfl, ?_⟩) (by assumption) ?_
                  case refine_2 => (intro w hSw; (try dsimp only [List.getElem_toArray, List.getElem_cons_zero, List.getElem_cons_succ] at hSw ⊢); go_simp; (try with_reducible rfl))
                  try simp only [Act.put, List.getElem_toArray, List.getElem_cons_zero, List.getElem_cons_succ, List.setIfInBounds_toArray, List.set_cons_zero, List.set_cons_succ]
                  refine wpAnyH_take (i := 12) (oi := _) (v := ?_) rfl (by kernel_rfl) (by kernel_rfl) (by kernel_rfl) (fun _ _ _ h => h) (Or.inl ⟨by rfl, ?_⟩) (by assumption) ?_
                  case refine_2 => (intro w hSw; (try dsimp only [List.getElem_toArray, List.getElem_cons_zero, List.getElem_cons_succ] at hSw ⊢); go_simp; (try with_reducible rfl))
                  try simp only [Act.put, List.getElem_toArray, List.getElem_cons_zero, List.getElem_cons_succ, List.setIfInBounds_toArray, List.set_cons_zero, List.set_cons_succ]
                  refine wpAnyH_ready (rs := [13]) (by kernel_rfl) (by simp) ?_
                  refine (AllReadyH.cons (o := _) (by simp only [List.getElem?_toArray, List.getElem?_cons_zero, List.getElem?_cons_succ]; rfl) (fun K hK => ?_) AllReadyH.nil)
                  go_simp
                  have HRs := Aside0.mk (HRn.out.store (A' := A10) (n' := N10) (cap' := c10))
                  refine hK.out _ _ ?_ (fun hHeld2 => ?_)
                  · first | exact HS.out _ _ _ _ HRd.out | exact HS.out _ _ _ _ HRk.out | exact HS.out _ _ _ _ HRm.out | exact HS.out _ _ _ _ HRn.out | exact HS.out _ _ _ _ HRs.out
                  clear hK K hHeld
                  have hHeld := hHeld2
                  clear hHeld2
                  try simp only [Act.put, List.getElem_toArray, List.getElem_cons_zero, List.getElem_cons_succ, List.setIfInBounds_toArray, List.set_cons_zero, List.set_cons_succ]
                  refine wpAnyH_done (by kernel_rfl) ?_ _
                  go_wp2_with (fail)
                  go_roundg (go - 1)
                  case measure => omega
                  case rel => exact ⟨k + 1, us ++ [List.replicate (n - 2) 120], A10, c10, by go_num, by omega, by omega, ⟨HST.out.1, by rw [HST.out.2.2.1]; exact HST.out.2.2.2⟩, ⟨by rw [HST.out.2.1, ← HL.out, ← HQ.out, ← HN10.out]; exact HRs.out⟩, ⟨by rw [HST.out.2.1, ← HL.out, ← HQ.out, ← HN10.out]; exact HDn.out.set HRn.out.rh HH0.out _ _⟩⟩
              · skip
                go_simp
                have HDk := Aside0.mk ((HDz.out.alloc (.cells #[.int .u8 13, .int .u8 10] 5)).go ((Below.refl _ _).drew))
                have HRk := Aside0.mk ((HRz.out.on ((Below.refl wz.heap.size wz).alloc (Nat.le_refl _) (.cells #[.int .u8 13, .int .u8 10] 5))).on ((Below.refl _ _).drew))
                have HBk := Aside0.mk (show ((wz.alloc (.cells #[.int .u8 13, .int .u8 10] 5)).drew).heap[wz.heap.size]? = some (.cells #[.int .u8 13, .int .u8 10] 5 (0, 0)) from heap_alloc_new _ _)
                have HLT9 := Aside0.mk (Kd.R_lt HDz.out.ow)
                have HBq := Aside0.mk ((HBl.out.on ((Below.refl wz.heap.size wz).alloc (Nat.le_refl _) (.cells #[.int .u8 13, .int .u8 10] 5))).on ((Below.refl _ _).drew))
                refine hK.out _ _ ?_ (fun hHeld2 => ?_)
                · first | exact HS.out _ _ _ _ HRd.out | exact HS.out _ _ _ _ HRk.out | exact HS.out _ _ _ _ HRm.out | exact HS.out _ _ _ _ HRn.out | exact HS.out _ _ _ _ HRs.out
                clear hK K hHeld
                have hHeld := hHeld2
                clear hHeld2
                try simp only [Act.put, List.getElem_toArray, List.getElem_cons_zero, List.getElem_cons_succ, List.setIfInBounds_toArray, List.set_cons_zero, List.set_cons_succ]
                obtain ⟨wk, hwk⟩ : ∃ wk, wk = (wz.alloc (.cells #[.int .u8 13, .int .u8 10] 5)).drew := ⟨_, rfl⟩
                obtain ⟨gk9, hgk9⟩ : ∃ gk9, gk9 = wz.heap.size := ⟨_, rfl⟩
                rw [← hwk] at HDk HRk HBk HBq ⊢
                rw [← hgk9] at HBk HLT9 ⊢
                clear hwk hgk9
                have hlk := (cells8 HRk.out.rh).1.2.2.2.2.1
                have HLK := Aside0.mk hlk
                clear hlk
                refine wpAnyH_ready (rs := [6]) (by kernel_rfl) (by simp) ?_
                refine (AllReadyH.cons (o := _) (by simp only [List.getElem?_toArray, List.getElem?_cons_zero, List.getElem?_cons_succ]; rfl) (fun K hK => ?_) AllReadyH.nil)
                have hld := HLK.out
                go_simp
                clear hld
                refine hK.out _ _ ?_ (fun hHeld2 => ?_)
                · first | exact HS.out _ _ _ _ HRd.out | exact HS.out _ _ _ _ HRk.out | exact HS.out _ _ _ _ HRm.out | exact HS.out _ _ _ _ HRn.out | exact HS.out _ _ _ _ HRs.out
                clear hK K hHeld
                have hHeld := hHeld2
                clear hHeld2
                try simp only [Act.put, List.getElem_toArray, List.getElem_cons_zero, List.getElem_cons_succ, List.setIfInBounds_toArray, List.set_cons_zero, List.set_cons_succ]
                refine wpAnyH_ready (rs := [8]) (by kernel_rfl) (by simp) ?_
                refine (AllReadyH.cons (o := _) (by simp only [List.getElem?_toArray, List.getElem?_cons_zero, List.getElem?_cons_succ]; rfl) (fun K hK => ?_) AllReadyH.nil)
                refine bd_append2_step (by rfl) (.tmp 66) (.tmp 67) rfl _ _ (List.replicate i 120) _ _ _ rfl rfl (by rw [List.length_replicate]) HDk.out HBq.out (by rw [List.length_replicate]; omega) ?_
                intro v8 wm hd8 hg8
                have HDm := Aside0.mk hd8
                have HRm := Aside0.mk (HRk.out.bd HDk.out hg8)
                have HBm := Aside0.mk (Bt.lit [13, 10] ((hg8.block gk9 (Array.getElem?_eq_some_iff.1 HBk.out).1 (fun e => absurd (HLT9.out gk9 e.symm) (Nat.lt_irrefl _))).trans HBk.out) rfl (by decide))
                clear hd8 hg8
                refine hK.out _ _ ?_ (fun hHeld2 => ?_)
                · first | exact HS.out _ _ _ _ HRd.out | exact HS.out _ _ _ _ HRk.out | exact HS.out _ _ _ _ HRm.out | exact HS.out _ _ _ _ HRn.out | exact HS.out _ _ _ _ HRs.out
                clear hK K hHeld
                have hHeld := hHeld2
                clear hHeld2
                try simp only [Act.put, List.getElem_toArray, List.getElem_cons_zero, List.getElem_cons_succ, List.setIfInBounds_toArray, List.set_cons_zero, List.set_cons_succ]
                refine wpAnyH_ready (rs := [10]) (by kernel_rfl) (by simp) ?_
                refine (AllReadyH.cons (o := _) (by simp only [List.getElem?_toArray, List.getElem?_cons_zero, List.getElem?_cons_succ]; rfl) (fun K hK => ?_) AllReadyH.nil)
                refine bd_append2_step (by rfl) (.tmp 68) (.tmp 69) rfl _ _ [13, 10] _ _ _ rfl rfl rfl HDm.out HBm.out (by rw [List.length_append, List.length_replicate]; show _ + 2 ≤ _; omega) ?_
                intro v10 wn hd10 hg10
                have HDn := Aside0.mk hd10
                have HRn := Aside0.mk (HRm.out.bd HDm.out hg10)
                clear hd10 hg10
                refine hK.out _ _ ?_ (fun hHeld2 => ?_)
                · first | exact HS.out _ _ _ _ HRd.out | exact HS.out _ _ _ _ HRk.out | exact HS.out _ _ _ _ HRm.out | exact HS.out _ _ _ _ HRn.out | exact HS.out _ _ _ _ HRs.out
                clear hK K hHeld
                have hHeld := hHeld2
                clear hHeld2
                try simp only [Act.put, List.getElem_toArray, List.getElem_cons_zero, List.getElem_cons_succ, List.setIfInBounds_toArray, List.set_cons_zero, List.set_cons_succ]
                obtain ⟨A10, c10, e10, _⟩ := Ow.bt HDn.out.ow
                obtain ⟨N10, hN10⟩ : ∃ N, N = (L ++ List.replicate i 120 ++ [13, 10]).length := ⟨_, rfl⟩
                rw [← hN10] at e10
                subst e10
                have HN10 := Aside0.mk hN10
                clear hN10
                obtain ⟨_, _, _, _, y4, _⟩ := (cells8 HRn.out.rh).2
                have hs4 := (cells8 HRn.out.rh).1.2.2.2.2.1
                refine wpAnyH_take (i := 11) (oi := _) (v := ?_) rfl (by kernel_rfl) (by kernel_rfl) (by kernel_rfl) (fun _ _ _ h => h) (Or.inl ⟨by rfl, ?_⟩) (by assumption) ?_
                case refine_2 => (intro w hSw; (try dsimp only [List.getElem_toArray, List.getElem_cons_zero, List.getElem_cons_succ] at hSw ⊢); go_simp; (try with_reducible rfl))
                try simp only [Act.put, List.getElem_toArray, List.getElem_cons_zero, List.getElem_cons_succ, List.setIfInBounds_toArray, List.set_cons_zero, List.set_cons_succ]
                refine wpAnyH_take (i := 12) (oi := _) (v := ?_) rfl (by kernel_rfl) (by kernel_rfl) (by kernel_rfl) (fun _ _ _ h => h) (Or.inl ⟨by rfl, ?_⟩) (by assumption) ?_
                case refine_2 => (intro w hSw; (try dsimp only [List.getElem_toArray, List.getElem_cons_zero, List.getElem_cons_succ] at hSw ⊢); go_simp; (try with_reducible rfl))
                try simp only [Act.put, List.getElem_toArray, List.getElem_cons_zero, List.getElem_cons_succ, List.setIfInBounds_toArray, List.set_cons_zero, List.set_cons_succ]
                refine wpAnyH_ready (rs := [13]) (by kernel_rfl) (by simp) ?_
                refine (AllReadyH.cons (o := _) (by simp only [List.getElem?_toArray, List.getElem?_cons_zero, List.getElem?_cons_succ]; rfl) (fun K hK => ?_) AllReadyH.nil)
                go_simp
                have HRs := Aside0.mk (HRn.out.store (A' := A10) (n' := N10) (cap' := c10))
                refine hK.out _ _ ?_ (fun hHeld2 => ?_)
                · first | exact HS.out _ _ _ _ HRd.out | exact HS.out _ _ _ _ HRk.out | exact HS.out _ _ _ _ HRm.out | exact HS.out _ _ _ _ HRn.out | exact HS.out _ _ _ _ HRs.out
                clear hK K hHeld
                have hHeld := hHeld2
                clear hHeld2
                try simp only [Act.put, List.getElem_toArray, List.getElem_cons_zero, List.getElem_cons_succ, List.setIfInBounds_toArray, List.set_cons_zero, List.set_cons_succ]
                refine wpAnyH_done (by kernel_rfl) ?_ _
                go_wp2_with (fail)
                go_roundg (go - 1)
                case measure => omega
                case rel => exact ⟨k + 1, us ++ [List.replicate (n - 2) 120], A10, c10, by go_num, by omega, by omega, ⟨HST.out.1, by rw [HST.out.2.2.1]; exact HST.out.2.2.2⟩, ⟨by rw [HST.out.2.1, ← HL.out, ← HQ.out, ← HN10.out]; exact HRs.out⟩, ⟨by rw [HST.out.2.1, ← HL.out, ← HQ.out, ← HN10.out]; exact HDn.out.set HRn.out.rh HH0.out _ _⟩⟩
      · have hne : k = 3000 := by omega
        subst hne
        go_wp2_with (fail)
        go_meet
        case rel => exact ⟨us, A, cap, HU, ⟨by rw [← HL.out]; exact HR.out⟩, ⟨by rw [← HL.out]; exact HD.out⟩⟩
  case rest =>
  obtain ⟨us, A, cap, HU, HR, HD⟩ := hcut
  obtain ⟨wx, rfl⟩ : ∃ wz : World, wz = wc := ⟨_, rfl⟩
  apply_assumption
  obtain ⟨L, hL⟩ : ∃ L, L = B.joined us := ⟨_, rfl⟩
  rw [← hL] at HR HD
  have hLl : L.length ≤ 4020 := by rw [hL]; exact HU.out.2
  have hxb := B.x_bytes HU.out.1 HU.out.2
  rw [← hL] at hxb
  obtain ⟨X1, X2, hX⟩ : ∃ X1 X2, B.bytes (B.xBun L) = (X1, X2) := ⟨_, _, rfl⟩
  rw [hX] at hxb
  obtain ⟨hx2, hx3, hx4⟩ := hxb
  simp only at hx2 hx3 hx4
  subst hx2
  have hX1l : X1.length ≤ 4096 := by omega
  have HX := Aside0.mk hX
  clear hL hX
  obtain ⟨b0, b1, b2, g0, g1, g2⟩ := cells3 HR.out.rg
  have HRB := Aside0.mk (x_rbytes HR.out HD.out.ow.bt' (by omega) X1 0 HX.out)
  go_upto_region 22 with (first | (go_at_call 14; (with_reducible refine Calls.mono HRB.out ?_); rintro e w5 ⟨⟨A5, c5, rfl, hb5⟩, h⟩; have HW5 := Aside0.mk h; have HB5 := Aside0.mk hb5; (clear h hb5)))
  clear b0 b1 b2 g0 g1 g2
  obtain ⟨wy, rfl⟩ : ∃ wz : World, wz = w5 := ⟨_, rfl⟩
  have HRy := Aside0.mk (HR.out.on HW5.out)
  have HDy := Aside0.mk (HD.out.go HW5.out)
  have HTW := Aside0.mk (twin_any (show Bt wy A cap L from HDy.out.ow.bt') (by omega))
  obtain ⟨b0, b1, b2, g0, g1, g2⟩ := cells3 HRy.out.rg
  have hld := (cells8 HRy.out.rh).1.2.2.2.2.1
  obtain ⟨lf, hlf⟩ : ∃ lf : Nat, lf = 4096 - X1.length := ⟨_, rfl⟩
  have hlfI : (4096 : Int) - (X1.length : Int) = (lf : Int) := by omega
  have hXI : (X1.length : Int) ≤ 4096 := by omega
  obtain ⟨M, hM⟩ : ∃ M : Nat, M = lf + ov := ⟨_, rfl⟩
  have hMI : (lf : Int) + (ov : Int) = (M : Int) := by omega
  have hM5 : M ≤ 4100 := by omega
  have hMI5 : (M : Int) ≤ 4100 := by omega
  clear hlf hM
  go_wp2_with (first | (go_at_call 12; (with_reducible refine Calls.mono HTW.out ?_); rintro e w6 ⟨⟨A6, c6, rfl, hOw⟩, h⟩; have HO6 := Aside0.mk hOw; have HW6 := Aside0.mk h; clear h hOw))
  obtain ⟨wt, rfl⟩ : ∃ wz : World, wz = w6 := ⟨_, rfl⟩
  have HRt := Aside0.mk (HRy.out.on HW6.out)
  have HDt := Aside0.mk (HDy.out.go HW6.out)
  clear b0 b1 b2 g0 g1 g2 hld
  go_loopg [15, 16] M (fun gf v15 v16 wr => ∃ (i : Nat) (A1 : Option Addr) (c1 : Nat), v15 = .slice A1 i c1 ∧ v16 = .int .i64 i ∧ i ≤ M ∧ gf + i = M ∧ Aside0 (Bd wt.heap.size wt wr (.slice A1 i c1) (List.replicate i 120)))
  case atStart => exact ⟨0, none, 0, rfl, rfl, by omega, by omega, ⟨Bd.none wt⟩⟩
  case round =>
    obtain ⟨i, A1, c1, rfl, rfl, hi, hgi, HDl⟩ := hrel
    obtain ⟨wz, rfl⟩ : ∃ wz : World, wz = wr := ⟨_, rfl⟩
    obtain ⟨gi, rfl⟩ : ∃ z : Nat, z = gk := ⟨_, rfl⟩
    have h0i : (0 : Int) ≤ (i : Int) := by omega
    have hi4 : (i : Int) ≤ 4100 := by omega
    by_cases hlt : i < M
    · have hltI : (i : Int) < (M : Int) := by omega
      go_wp2_with (first | ((with_reducible refine gate_builtin (b := .append) (xs := #[.tmp 95, .tmp 96]) rfl ?_); at_builtin; refine bd_append2 rfl (.tmp 95) (.tmp 96) rfl _ _ [120] _ _ _ rfl rfl rfl (HDl.out.alloc _) (Bt.lit [120] (heap_alloc_new _ _) rfl (by decide)) (by rw [List.length_replicate]; simp; omega) ?_; intro v7 w7 h _ _; obtain ⟨A7, c7, e7, _⟩ := Ow.bt h.ow; rw [List.length_append, List.length_replicate, List.length_singleton] at e7; subst e7; have HD7 := Aside0.mk h; clear h))
      go_roundg (gi - 1)
      case measure => omega
      case rel => exact ⟨i + 1, A7, c7, by rfl, by go_num, by omega, by omega, ⟨by rw [List.replicate_succ']; exact HD7.out⟩⟩
    · obtain rfl : i = M := by omega
      have t1 : decide ((i : Int) < (i : Int)) = false := by simp
      clear hlt
      have HRz := Aside0.mk (HRt.out.on HDl.out.be)
      have HBg := Aside0.mk ((Ow.bt' HO6.out).on HDl.out.be)
      have HWz := Aside0.mk (HDt.out.be.trans (HDl.out.be.mono HDt.out.sz))
      obtain ⟨G, hG⟩ : ∃ G, G = List.replicate i (120 : UInt8) ++ L := ⟨_, rfl⟩
      have hGl : G.length = i + L.length := by rw [hG, List.length_append, List.length_replicate]
      have HG := Aside0.mk hG
      obtain ⟨Y1, Y2, hY⟩ : ∃ Y1 Y2, B.bytes (B.xBun G) = (Y1, Y2) := ⟨_, _, rfl⟩
      have hyl : Y1.length ≤ 4096 := by have := B.bytes_len (B.xBun G); rw [hY] at this; exact this
      have hylI : (Y1.length : Int) ≤ 4096 := by omega
      have HY := Aside0.mk hY
      have HGL := Aside0.mk hGl
      clear hG hY hGl
      go_upto_region 28 with (fail)
      have HS := Aside0.mk (fun (W : World) (A' : Option Addr) (n' c' : Nat) (r : LRows W t h g A' n' c') => (cells3 r.rg).2.2.1)
      have HDd := Aside0.mk (HDl.out.go ((Below.refl wz.heap.size wz).drew))
      have HRd := Aside0.mk (HRz.out.on ((Below.refl wz.heap.size wz).drew))
      have HBd := Aside0.mk (HBg.out.on ((Below.refl wz.heap.size wz).drew))
      refine wp_region_held_drew (S := (fun w' => w'.cell? ⟨g, 2, none⟩ = some (.slice (some ⟨h, 0, none⟩) 1 1))) (by kernel_rfl) ?_ (fun hHeld => ?_)
      · first | exact HS.out _ _ _ _ HRd.out | exact HS.out _ _ _ _ HRn.out | exact HS.out _ _ _ _ HRs.out
      refine wpAnyH_take (i := 0) (oi := _) (v := ?_) rfl (by kernel_rfl) (by kernel_rfl) (by kernel_rfl) (fun _ _ _ h => h) (Or.inl ⟨by rfl, ?_⟩) (by assumption) ?_
      case refine_2 => (intro w hSw; (try dsimp only [List.getElem_toArray, List.getElem_cons_zero, List.getElem_cons_succ] at hSw ⊢); go_simp; (try with_reducible rfl))
      try simp only [Act.put, List.getElem_toArray, List.getElem_cons_zero, List.getElem_cons_succ, List.setIfInBounds_toArray, List.set_cons_zero, List.set_cons_succ]
      refine wpAnyH_take (i := 1) (oi := _) (v := ?_) rfl (by kernel_rfl) (by kernel_rfl) (by kernel_rfl) (fun _ _ _ h => h) (Or.inl ⟨by rfl, ?_⟩) (by assumption) ?_
      case refine_2 => (intro w hSw; (try dsimp only [List.getElem_toArray, List.getElem_cons_zero, List.getElem_cons_succ] at hSw ⊢); go_simp; (try with_reducible rfl))
      try simp only [Act.put, List.getElem_toArray, List.getElem_cons_zero, List.getElem_cons_succ, List.setIfInBounds_toArray, List.set_cons_zero, List.set_cons_succ]
      refine wpAnyH_take (i := 2) (oi := _) (v := ?_) rfl (by kernel_rfl) (by kernel_rfl) (by kernel_rfl) (fun _ _ _ h => h) (Or.inl ⟨by rfl, ?_⟩) (by assumption) ?_
      case refine_2 => (intro w hSw; (try dsimp only [List.getElem_toArray, List.getElem_cons_zero, List.getElem_cons_succ] at hSw ⊢); go_simp; (try with_reducible rfl))
      try simp only [Act.put, List.getElem_toArray, List.getElem_cons_zero, List.getElem_cons_succ, List.setIfInBounds_toArray, List.set_cons_zero, List.set_cons_succ]
      refine wpAnyH_take (i := 3) (oi := _) (v := ?_) rfl (by kernel_rfl) (by kernel_rfl) (by kernel_rfl) (fun _ _ _ h => h) (Or.inl ⟨by rfl, ?_⟩) (by assumption) ?_
      case refine_2 => (intro w hSw; (try dsimp only [List.getElem_toArray, List.getElem_cons_zero, List.getElem_cons_succ] at hSw ⊢); go_simp; (try with_reducible rfl))
      try simp only [Act.put, List.getElem_toArray, List.getElem_cons_zero, List.getElem_cons_succ, List.setIfInBounds_toArray, List.set_cons_zero, List.set_cons_succ]
      refine wpAnyH_ready (rs := [4]) (by kernel_rfl) (by simp) ?_
      refine (AllReadyH.cons (o := _) (by simp only [List.getElem?_toArray, List.getElem?_cons_zero, List.getElem?_cons_succ]; rfl) (fun K hK => ?_) AllReadyH.nil)
      refine bd_append2_step (by rfl) (.tmp 100) (.tmp 101) rfl _ _ L _ _ _ rfl rfl rfl HDd.out HBd.out (by rw [List.length_replicate]; omega) ?_
      intro v10 wn hd10 hg10
      rw [← HG.out] at hd10
      have HDn := Aside0.mk hd10
      have HRn := Aside0.mk (HRd.out.bd HDd.out hg10)
      clear hd10 hg10
      refine hK.out _ _ ?_ (fun hHeld2 => ?_)
      · first | exact HS.out _ _ _ _ HRd.out | exact HS.out _ _ _ _ HRn.out | exact HS.out _ _ _ _ HRs.out
      clear hK K hHeld
      have hHeld := hHeld2
      clear hHeld2
      try simp only [Act.put, List.getElem_toArray, List.getElem_cons_zero, List.getElem_cons_succ, List.setIfInBounds_toArray, List.set_cons_zero, List.set_cons_succ]
      obtain ⟨A10, c10, e10, _⟩ := Ow.bt HDn.out.ow
      obtain ⟨N10, hN10⟩ : ∃ N, N = G.length := ⟨_, rfl⟩
      rw [← hN10] at e10
      subst e10
      have HN10 := Aside0.mk hN10
      clear hN10
      obtain ⟨_, _, _, _, y4, _⟩ := (cells8 HRn.out.rh).2
      have hs4 := (cells8 HRn.out.rh).1.2.2.2.2.1
      refine wpAnyH_take (i := 5) (oi := _) (v := ?_) rfl (by kernel_rfl) (by kernel_rfl) (by kernel_rfl) (fun _ _ _ h => h) (Or.inl ⟨by rfl, ?_⟩) (by assumption) ?_
      case refine_2 => (intro w hSw; (try dsimp only [List.getElem_toArray, List.getElem_cons_zero, List.getElem_cons_succ] at hSw ⊢); go_simp; (try with_reducible rfl))
      try simp only [Act.put, List.getElem_toArray, List.getElem_cons_zero, List.getElem_cons_succ, List.setIfInBounds_toArray, List.set_cons_zero, List.set_cons_succ]
      refine wpAnyH_take (i := 6) (oi := _) (v := ?_) rfl (by kernel_rfl) (by kernel_rfl) (by kernel_rfl) (fun _ _ _ h => h) (Or.inl ⟨by rfl, ?_⟩) (by assumption) ?_
      case refine_2 => (intro w hSw; (try dsimp only [List.getElem_toArray, List.getElem_cons_zero, List.getElem_cons_succ] at hSw ⊢); go_simp; (try with_reducible rfl))
      try simp only [Act.put, List.getElem_toArray, List.getElem_cons_zero, List.getElem_cons_succ, List.setIfInBounds_toArray, List.set_cons_zero, List.set_cons_succ]
      refine wpAnyH_ready (rs := [7]) (by kernel_rfl) (by simp) ?_
      refine (AllReadyH.cons (o := _) (by simp only [List.getElem?_toArray, List.getElem?_cons_zero, List.getElem?_cons_succ]; rfl) (fun K hK => ?_) AllReadyH.nil)
      go_simp
      have HRs := Aside0.mk (HRn.out.store (A' := A10) (n' := N10) (cap' := c10))
      refine hK.out _ _ ?_ (fun hHeld2 => ?_)
      · first | exact HS.out _ _ _ _ HRd.out | exact HS.out _ _ _ _ HRn.out | exact HS.out _ _ _ _ HRs.out
      clear hK K hHeld
      have hHeld := hHeld2
      clear hHeld2
      try simp only [Act.put, List.getElem_toArray, List.getElem_cons_zero, List.getElem_cons_succ, List.setIfInBounds_toArray, List.set_cons_zero, List.set_cons_succ]
      obtain ⟨ws, hws⟩ : ∃ ws, ws = wn.setCell ⟨h, 4, none⟩ (.slice A10 N10 c10) := ⟨_, rfl⟩
      have hos : Ow wt.heap.size ws (.slice A10 N10 c10) G := by rw [hws]; exact R_set HDn.out.ow _ HRn.out.rh byteE
      have hbs : Below w.heap.size w ws := by rw [hws]; exact (HDt.out.be.trans (HDn.out.be.mono HDt.out.sz)).setCell HH0.out _
      rw [← hws] at HRs ⊢
      have HWs := Aside0.mk hbs
      have HOs := Aside0.mk hos
      clear hws hos hbs y4 hs4
      refine wpAnyH_done (by kernel_rfl) ?_ _
      have hrs2 := HRs.out
      rw [HN10.out] at hrs2
      have hbt := Ow.bt' HOs.out
      have HBN := Aside0.mk (hrs2.bn hbt)
      have hgf : G.length ≤ 100000 := by have := HGL.out; omega
      have hb1 := bytes_any (B.xBun G) (some ⟨h, 0, none⟩) 1 ws HBN.out (xfit hgf) (HV.out.go HWs.out)
      rw [HY.out] at hb1
      have HB1 := Aside0.mk (show Calls Tryz.prog 13 #[.agg #[.int .i64 0, .int .i64 1, .slice (some ⟨h, 0, none⟩) 1 1]] ws fun e w' => (∃ A1 c1, e = .returned (.tuple #[.slice A1 Y1.length c1, .int .i64 Y2]) ∧ Fr ws.heap.size w' A1 c1 Y1) ∧ Below ws.heap.size ws w' from hb1)
      have HB2 := Aside0.mk (fun (W : World) (hW : Below ws.heap.size ws W) => x_rbytes (hrs2.on hW) (hbt.on hW) hgf Y1 Y2 HY.out)
      have HKT := Aside0.mk (fun (W : World) (A1 A2 : Option Addr) (c1 c2 : Nat) (h1 : Bt W A1 c1 Y1) (h2 : Bt W A2 c2 Y1) => (show Calls Tryz.prog 21 #[.slice A1 Y1.length c1, .slice A2 Y1.length c2] W fun e w' => e = .returned (.bool true) ∧ Below W.heap.size W w' by
        have h := kbytes_any h1 h2 (by omega) (by omega)
        rw [decide_eq_true (rfl : Y1 = Y1)] at h
        exact h))
      have HWK := Aside0.mk (fun (W : World) (hW : Below ws.heap.size ws W) => wakes_any W (HV.out.go (HWs.out.trans (hW.mono HWs.out.size))))
      clear hrs2 hbt hb1
      obtain ⟨b0, b1, b2, g0, g1, g2⟩ := cells3 HRs.out.rg
      go_wp2_with (first | (go_at_call 13; (with_reducible refine Calls.mono HB1.out ?_); rintro e wq ⟨⟨A11, c11, rfl, hfr⟩, h⟩; have HW := Aside0.mk h; have HF1 := Aside0.mk hfr.bt; (clear b0 b1 b2 g0 g1 g2 hfr); obtain ⟨b0, b1, b2, g0, g1, g2⟩ := cells3 (HRs.out.on h).rg; clear h) | (go_at_call 14; (with_reducible refine Calls.mono (HB2.out _ HW.out) ?_); rintro e wq ⟨⟨A12, c12, rfl, hfr⟩, h⟩; have HWn := Aside0.mk (HW.out.trans (h.mono HW.out.size)); have HF3 := Aside0.mk (HF1.out.on h); have HF2 := Aside0.mk hfr; clear HW h hfr; have HW := Aside0.mk HWn.out; clear HWn) | (go_at_call 21; (with_reducible refine Calls.mono (HKT.out _ _ _ _ _ HF3.out HF2.out) ?_); rintro e wq ⟨rfl, h⟩; have HWn := Aside0.mk (HW.out.trans (h.mono HW.out.size)); clear HW h; have HW := Aside0.mk HWn.out; clear HWn) | (go_at_call 25; (with_reducible refine Calls.mono (HWK.out _ HW.out) ?_); rintro e wq ⟨rfl, h⟩; have HWn := Aside0.mk (HW.out.trans (h.mono HW.out.size)); clear HW h; have HW := Aside0.mk HWn.out; clear HWn))
      go_ret
      exact ⟨rfl, HWs.out.trans (HW.out.mono HWs.out.size)⟩
end Go.Proofs.YtpfmnkpmidjfjaaGreatDoor
