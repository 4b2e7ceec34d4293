/- What the law's wakes answers. -/
import Derived.Test.YteiknmcmaemcoaaDoorProg
import Derived.WalkKit
import Derived.WalkLawsBesides
import Derived.Outline
import Derived.LoopTactic
import Derived.Lib.Hide
import Derived.Deep.QuietTactic
import Derived.BigQuiet
import Derived.Deep.LoopGhost
import Derived.Deep.DeepCutAuto
import Derived.Deep.CutBlock
import Derived.Deep.RegionHeld3
import Derived.Deep.RegionWith
import Derived.Deep.WholeRow
import Derived.Laws.Rows
import Derived.Laws.Tables
import Derived.Laws.ResultCell
import Derived.StillTailTactics
import Derived.Deep.DeepMust
import Derived.IntWalk
import Derived.KernelRfl
import Derived.Test.YteiknmcmaemcoaaDoorWWords
import Derived.Test.YteiknmcmaemcoaaDoorWLast
import Derived.Test.YteiknmcmaemcoaaDoorWMore
import Derived.RegionTactic
import Derived.Test.YteiknmcmaemcoaaDoorVv
namespace Go.Proofs.YteiknmcmaemcoaaDoor
open Go.RowKit Go.Lib
open Go.Proofs.YteiknmcmaemcoaaDoorW.PrintWords Go.Proofs.YteiknmcmaemcoaaDoorW.PrintLast Go.Proofs.YteiknmcmaemcoaaDoorW.PrintMore
set_option linter.unusedVariables false
set_option linter.unusedSimpArgs false
/-- A line that is a command. -/
theorem parse_some (s : ByteArray) (c : V.Cmd) (cd : Int) (h : V.parse (lst s) = (some c, cd)) (w : World) (hs : s.size ≤ 100000) (hv : Vars w) :
    Calls Tryd.prog 10 #[.string s] w fun e w' => (∃ (A : Option Addr) (q : Nat), e = .returned (.tuple #[cagg c A q, .int .i64 0]) ∧ Kd.C kp w' A c.prms.length c.prms) ∧ Below w.heap.size w w' := by
  refine (parse_any s w hs hv).mono ?_
  rintro e w' ⟨h1, hb⟩
  rw [h] at h1
  obtain ⟨v, rfl, hR, hl⟩ := h1
  obtain ⟨A, q, rfl, _, hC⟩ := Kd.R_reads hR
  exact ⟨⟨A, q, rfl, hC⟩, hb⟩
/-- A line that is none. -/
theorem parse_none (s : ByteArray) (cd : Int) (h : V.parse (lst s) = (none, cd)) (w : World) (hs : s.size ≤ 100000) (hv : Vars w) :
    Calls Tryd.prog 10 #[.string s] w fun e w' => e = .returned (.tuple #[.agg #[.int .i64 0, .string (str []), .bool false, .string (str []), .string (str []), .slice none 0 0], .int .i64 cd]) ∧ Below w.heap.size w w' := by
  refine (parse_any s w hs hv).mono ?_
  rintro e w' ⟨h1, hb⟩
  rw [h] at h1
  exact ⟨h1, hb⟩
theorem wake_fit : Fit wakeC := ⟨by decide, by decide, by decide, by decide, by decide, by decide⟩
set_option maxRecDepth 100000 in
set_option maxHeartbeats 4000000 in
theorem wakes_any (w : World) (hv : Vars w) :
    Calls Tryd.prog 12 #[] w fun e w' => e = .returned (.bool true) ∧ Below w.heap.size w w' := by
  have hp1 := fun w hv => parse_some ⟨#[109, 97, 105, 108, 32, 102, 114, 111, 109, 58, 60, 62, 32, 115, 105, 122, 101, 61, 53]⟩ wakeC 0 wake_parse w (by decide) hv
  have hp2 := fun w hv => parse_none ⟨#[70, 82, 79, 66]⟩ 500 wake_frob w (by decide) hv
  obtain ⟨X, hX⟩ : ∃ X, X = str wakeT := ⟨_, rfl⟩
  have ht : ∀ (A : Option Addr) (q : Nat) (w : World), Kd.C kp w A wakeC.prms.length wakeC.prms → Vars w → Calls Tryd.prog 9 #[cagg wakeC A q] w fun e w' => e = .returned (.tuple #[.string X, .int .i64 0]) ∧ Below w.heap.size w w' := by
    intro A q w hC hv
    have h := text_any wakeC A q w wake_fit hC hv
    rw [wake_text] at h
    rw [hX]
    exact h
  have hpr : ∀ (A : Option Addr) (q : Nat) (w : World), Kd.C kp w A wakeC.prms.length wakeC.prms → Calls Tryd.prog 23 #[cagg wakeC A q, .string ⟨#[83, 73, 90, 69]⟩] w fun e w' => e = .returned (.tuple #[.string ⟨#[53]⟩, .bool true]) ∧ Below w.heap.size w w' := by
    intro A q w hC
    have h := param_any wakeC A q wSIZE w hC (by decide)
    rw [wake_param] at h
    exact h
  have hxe : (X.toList == [77, 65, 73, 76, 32, 70, 82, 79, 77, 58, 60, 62, 32, 83, 73, 90, 69, 61, 53]) = true := by rw [hX, ByteArray.toList_eq]; rfl
  have HP1 := Aside0.mk hp1
  have HP2 := Aside0.mk hp2
  have HT := Aside0.mk ht
  have HPR := Aside0.mk hpr
  have HV := Aside0.mk hv
  clear hp1 hp2 ht hpr hv hX
  obtain ⟨N, hN⟩ : ∃ N, N = wakeC.prms.length := ⟨_, rfl⟩
  go_enter Tryd.func12, Tryd.ntmps12
  go_upto_region 2 with (first | (go_at_call 10; (with_reducible refine Calls.mono (HP1.out _ HV.out) ?_); rintro e w1 ⟨⟨A, q, rfl, hC⟩, h⟩; have H1 := Aside0.mk h; have HC := Aside0.mk hC; clear h hC))
  obtain ⟨w2, hw2⟩ : ∃ w2, w2 = w1.alloc (.cells #[.int .i64 wakeC.kind, .string (str wakeC.text), .bool wakeC.path.null, .string (str wakeC.path.loc), .string (str wakeC.path.dom), .slice A wakeC.prms.length q] 26) := ⟨_, rfl⟩
  rw [← hw2]
  obtain ⟨G, hG⟩ : ∃ G, G = w1.heap.size := ⟨_, rfl⟩
  rw [← hG]
  have hr2 : w2.heap[G]? = some (.cells #[.int .i64 wakeC.kind, .string (str wakeC.text), .bool wakeC.path.null, .string (str wakeC.path.loc), .string (str wakeC.path.dom), .slice A wakeC.prms.length q] 26 (0, 0)) := by rw [hw2, hG]; exact heap_alloc_new _ _
  have hb12 : Below w1.heap.size w1 w2 := by rw [hw2]; exact (Below.refl _ _).alloc (Nat.le_refl _) _
  have hb2 : Below w.heap.size w w2 := H1.out.trans (hb12.mono H1.out.size)
  have hs2 : G < w2.heap.size := (Array.getElem?_eq_some_iff.1 hr2).1
  have hrow : ∀ wx, Below w2.heap.size w2 wx → wx.heap[G]? = some (.cells #[.int .i64 wakeC.kind, .string (str wakeC.text), .bool wakeC.path.null, .string (str wakeC.path.loc), .string (str wakeC.path.dom), .slice A wakeC.prms.length q] 26 (0, 0)) := fun wx h => (h.block _ hs2).trans hr2
  have HRO := Aside0.mk hrow
  have HB2 := Aside0.mk hb2
  have HC2 := Aside0.mk (Kd.C_below HC.out hb12)
  have HV2 := Aside0.mk (HV.out.go hb2)
  obtain ⟨⟨a0, a1, a2, a3, a4, a5⟩, _⟩ := cells6 hr2
  clear hw2 hG hr2 hb12 hb2 hs2 hrow
  go_upto_region 3 with (first | (go_at_call 9; (with_reducible refine Calls.mono (HT.out A q w2 HC2.out HV2.out) ?_); rintro e w3 ⟨rfl, h⟩; have H3 := Aside0.mk h; clear h))
  clear a0 a1 a2 a3 a4 a5
  obtain ⟨⟨a0, a1, a2, a3, a4, a5⟩, _⟩ := cells6 (HRO.out w3 H3.out)
  have HC3 := Aside0.mk (Kd.C_below HC2.out H3.out)
  go_upto_region 4 with (first | (go_at_call 23; (with_reducible refine Calls.mono (HPR.out A q w3 HC3.out) ?_); rintro e w4 ⟨rfl, h⟩; have H4 := Aside0.mk (H3.out.trans (h.mono H3.out.size)); clear h))
  clear a0 a1 a2 a3 a4 a5
  go_upto_region 5 with (first | (go_at_call 10; (with_reducible refine Calls.mono (HP2.out _ (HV2.out.go H4.out)) ?_); rintro e w5 ⟨rfl, h⟩; have H5 := Aside0.mk (H4.out.trans (h.mono H4.out.size)); clear h))
  obtain ⟨w6, hw6⟩ : ∃ w6, w6 = w5.alloc (.cells #[.int .i64 0, .string (str []), .bool false, .string (str []), .string (str []), .slice none 0 0] 26) := ⟨_, rfl⟩
  rw [← hw6]
  have H6 := Aside0.mk (show Below w2.heap.size w2 w6 by rw [hw6]; exact H5.out.alloc H5.out.size _)
  clear hw6
  have b0 : w6.cell? ⟨G, 0, none⟩ = some (.int .i64 2) := by rw [cell_of_row w6 G _ _ _ _ (HRO.out w6 H6.out)]; rfl
  have b2 : w6.cell? ⟨G, 2, none⟩ = some (.bool true) := by rw [cell_of_row w6 G _ _ _ _ (HRO.out w6 H6.out)]; rfl
  go_wp2_with (fail)
  go_ret
  exact ⟨rfl, HB2.out.trans (H6.out.mono HB2.out.size)⟩
end Go.Proofs.YteiknmcmaemcoaaDoor
