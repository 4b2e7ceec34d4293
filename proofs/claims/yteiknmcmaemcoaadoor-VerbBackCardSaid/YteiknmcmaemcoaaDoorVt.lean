/- What verb's Param, wherrykeep's Path and Cmd, and the law's heavy answer. -/
import Derived.Test.YteiknmcmaemcoaaDoorProg
import Derived.WalkKit
import Derived.WalkLawsBesides
import Derived.Outline
import Derived.LoopTactic
import Derived.Lib.Hide
import Derived.Deep.QuietTactic
import Derived.BigQuiet
import Derived.Deep.LoopGhost
import Derived.Deep.DeepCutAuto
import Derived.Deep.CutBlock
import Derived.Deep.RegionHeld3
import Derived.Deep.RegionWith
import Derived.Deep.WholeRow
import Derived.Laws.Rows
import Derived.Laws.Tables
import Derived.Laws.ResultCell
import Derived.StillTailTactics
import Derived.Deep.DeepMust
import Derived.IntWalk
import Derived.KernelRfl
import Derived.Test.YteiknmcmaemcoaaDoorWWords
import Derived.Test.YteiknmcmaemcoaaDoorWLast
import Derived.Test.YteiknmcmaemcoaaDoorWMore
import Derived.RegionTactic
import Derived.Test.YteiknmcmaemcoaaDoorVs
namespace Go.Proofs.YteiknmcmaemcoaaDoor
open Go.RowKit Go.Lib
open Go.Proofs.YteiknmcmaemcoaaDoorW.PrintWords Go.Proofs.YteiknmcmaemcoaaDoorW.PrintLast Go.Proofs.YteiknmcmaemcoaaDoorW.PrintMore
set_option linter.unusedVariables false
set_option linter.unusedSimpArgs false
/-- The value of a parameter. -/
def V.param (key : V.Bs) (xs : List Prm) : Option V.Bs := match V.pfind key xs 0 with
  | none => none
  | some k => some (xs.getD k ([], [])).2
set_option maxRecDepth 100000 in
set_option maxHeartbeats 4000000 in
theorem param_any (c : V.Cmd) (A : Option Addr) (q : Nat) (key : V.Bs) (w : World) (hx : Kd.C kp w A c.prms.length c.prms) (hn : c.prms.length ≤ 1000000) :
    Calls Tryd.prog 23 #[cagg c A q, .string (str key)] w fun e w' => e = .returned (oRes (V.param key c.prms)) ∧ Below w.heap.size w w' := by
  obtain ⟨T, hT⟩ : ∃ T, T = oRes (V.param key c.prms) := ⟨_, rfl⟩
  rw [← hT]
  have HT := Aside0.mk hT
  obtain ⟨w1, hw1⟩ : ∃ w1, w1 = (w.alloc (.cells #[.int .i64 c.kind, .string (str c.text), .bool c.path.null, .string (str c.path.loc), .string (str c.path.dom), .slice A c.prms.length q] 26)).alloc (.cells #[.string (str key)] 9) := ⟨_, rfl⟩
  have hb1 : Below w.heap.size w w1 := by rw [hw1]; exact ((Below.refl _ w).alloc (Nat.le_refl _) _).alloc (by simp) _
  have hr1 : w1.heap[w.heap.size]? = some (.cells #[.int .i64 c.kind, .string (str c.text), .bool c.path.null, .string (str c.path.loc), .string (str c.path.dom), .slice A c.prms.length q] 26 (0, 0)) := by
    rw [hw1, heap_alloc_old _ _ (by simp)]; exact heap_alloc_new _ _
  have hk1 : w1.cell? ⟨w.heap.size + 1, 0, none⟩ = some (.string (str key)) := by
    rw [cell_of_row w1 _ _ _ _ _ (by rw [hw1]; exact alloc_two _ _ _)]; rfl
  have hs1 : w.heap.size < w1.heap.size := (Array.getElem?_eq_some_iff.1 hr1).1
  have hcx := Kd.C_below hx hb1
  have hix := idxp_param c.prms key A q (w.heap.size + 1) w1 hcx hn hk1
  have hrow : ∀ wx, Below w1.heap.size w1 wx → wx.heap[w.heap.size]? = some (.cells #[.int .i64 c.kind, .string (str c.text), .bool c.path.null, .string (str c.path.loc), .string (str c.path.dom), .slice A c.prms.length q] 26 (0, 0)) := fun wx h => (h.block _ hs1).trans hr1
  have HIX := Aside0.mk hix
  have HRO := Aside0.mk hrow
  have HCX := Aside0.mk hcx
  have HB1 := Aside0.mk hb1
  obtain ⟨⟨a0, a1, a2, a3, a4, a5⟩, _⟩ := cells6 hr1
  clear hT hb1 hr1 hk1 hs1 hcx hix hrow hx
  go_enter Tryd.func23, Tryd.ntmps23
  go_upto_region 1 with (fail)
  rw [← hw1]
  clear hw1
  cases hf : V.pfind key c.prms 0 with
  | none =>
    have hT : T = .tuple #[.string ByteArray.empty, .bool false] := by rw [HT.out]; unfold V.param; rw [hf]; rfl
    have hv : V.pfindI key c.prms = -1 := by unfold V.pfindI; rw [hf]
    have HTF := Aside0.mk hT
    have HV := Aside0.mk hv
    clear hT hv hf
    go_wp2_with (first | (go_at_call 36; (with_reducible refine Calls.mono HIX.out ?_); rintro e w2 ⟨rfl, h⟩; have H2 := Aside0.mk h; clear h; rw [HV.out]))
    go_ret2
    exact ⟨by rw [HTF.out]; rfl, HB1.out.trans (H2.out.mono HB1.out.size)⟩
  | some k =>
    have hk := V.pfind_lt _ _ _ _ hf
    have hkl : k < c.prms.length := by omega
    obtain ⟨x, hx⟩ : ∃ x, x = c.prms.getD k ([], []) := ⟨_, rfl⟩
    have hT : T = .tuple #[.string (str x.2), .bool true] := by rw [HT.out, hx]; unfold V.param; rw [hf]; rfl
    have hv : V.pfindI key c.prms = k := by unfold V.pfindI; rw [hf]
    have HTF := Aside0.mk hT
    have HV := Aside0.mk hv
    have hk1 : (k : Int) < (c.prms.length : Int) := by omega
    have hk0 : (0 : Int) ≤ (k : Int) := by omega
    obtain ⟨ad, rfl, p0, p1⟩ := kp_at HCX.out k hkl x hx
    have HP1 := Aside0.mk p1
    clear hT hv hf hk hx p0 p1
    go_wp2_with (first | (go_at_call 36; (with_reducible refine Calls.mono HIX.out ?_); rintro e w2 ⟨rfl, h⟩; have H2 := Aside0.mk h; have p1 := Below.cell_on h HP1.out; have hrc := HRO.out _ h; clear h a0 a1 a2 a3 a4 a5; obtain ⟨⟨a0, a1, a2, a3, a4, a5⟩, _⟩ := cells6 hrc; clear hrc; rw [HV.out]))
    go_ret2
    exact ⟨by rw [HTF.out]; rfl, HB1.out.trans (H2.out.mono HB1.out.size)⟩
set_option maxRecDepth 100000 in
theorem kpath_any (p r : V.Path) (w : World) :
    Calls Tryd.prog 22 #[.agg #[.bool p.null, .string (str p.loc), .string (str p.dom)], .agg #[.bool r.null, .string (str r.loc), .string (str r.dom)]] w fun e w' => e = .returned (.bool (decide (p = r))) ∧ Below w.heap.size w w' := by
  obtain ⟨T, hT⟩ : ∃ T, T = decide (p = r) := ⟨_, rfl⟩
  rw [← hT]
  obtain ⟨n1, l1, d1⟩ := p
  obtain ⟨n2, l2, d2⟩ := r
  simp only
  have e1 : ((str l1).toList == (str l2).toList) = decide (l1 = l2) := by rw [str_eqB, lst_str, lst_str]
  have e2 : ((str d1).toList == (str d2).toList) = decide (d1 = d2) := by rw [str_eqB, lst_str, lst_str]
  have hT2 : T = ((n1 == n2) && decide (l1 = l2) && decide (d1 = d2)) := by rw [hT, Bool.eq_iff_iff]; simp [and_assoc]
  have HT := Aside0.mk hT2
  clear hT hT2
  go_enter Tryd.func22, Tryd.ntmps22
  cases hn : (n1 == n2) with
  | false =>
    have hT : T = false := by rw [HT.out, hn]; rfl
    have HTF := Aside0.mk hT
    clear hT
    go_wp2_with (fail)
    go_ret
    exact ⟨by rw [HTF.out]; rfl, ((Below.refl _ w).alloc (Nat.le_refl _) _).alloc (by simp) _⟩
  | true =>
    cases hl : decide (l1 = l2) with
    | false =>
      have hT : T = false := by rw [HT.out, hn, hl]; rfl
      have HTF := Aside0.mk hT
      rw [hl] at e1
      clear hT hl
      go_wp2_with (fail)
      go_ret
      exact ⟨by rw [HTF.out]; rfl, ((Below.refl _ w).alloc (Nat.le_refl _) _).alloc (by simp) _⟩
    | true =>
      have hT : T = decide (d1 = d2) := by rw [HT.out, hn, hl]; rfl
      rw [hl] at e1
      rw [← hT] at e2
      clear hT hl
      go_wp2_with (fail)
      go_ret
      exact ⟨rfl, ((Below.refl _ w).alloc (Nat.le_refl _) _).alloc (by simp) _⟩
end Go.Proofs.YteiknmcmaemcoaaDoor
