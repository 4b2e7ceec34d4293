/- VerbDomains: the walk. -/
import Derived.Test.YteiknmcmaemcoaaDoorProg
import Derived.WalkKit
import Derived.WalkLawsBesides
import Derived.Outline
import Derived.LoopTactic
import Derived.Lib.Hide
import Derived.Deep.QuietTactic
import Derived.BigQuiet
import Derived.Deep.LoopGhost
import Derived.Deep.DeepCutAuto
import Derived.Deep.CutBlock
import Derived.Deep.RegionHeld3
import Derived.Deep.RegionWith
import Derived.Deep.WholeRow
import Derived.Laws.Rows
import Derived.Laws.Tables
import Derived.Laws.ResultCell
import Derived.StillTailTactics
import Derived.Deep.DeepMust
import Derived.IntWalk
import Derived.KernelRfl
import Derived.Test.YteiknmcmaemcoaaDoorWWords
import Derived.Test.YteiknmcmaemcoaaDoorWLast
import Derived.Test.YteiknmcmaemcoaaDoorWMore
import Derived.RegionTactic
import Derived.Test.YteiknmcmaemcoaaDoorVDm
import Derived.Test.YteiknmcmaemcoaaDoorVRd
namespace Go.Proofs.YteiknmcmaemcoaaDoor
open Go.RowKit Go.Lib
open Go.Proofs.YteiknmcmaemcoaaDoorW.PrintWords Go.Proofs.YteiknmcmaemcoaaDoorW.PrintLast Go.Proofs.YteiknmcmaemcoaaDoorW.PrintMore
set_option linter.unusedVariables false
set_option linter.unusedSimpArgs false
theorem rdom_any (s : ByteArray) (w : World) (hs : s.size ≤ 300) :
    Calls Tryd.prog 13 #[.string s] w fun e w' => e = .returned (.bool (V.domain (lst s))) ∧ Below w.heap.size w w' := by
  obtain ⟨k, hk⟩ := ref_domain s hs
  refine (PVerbDomains.wherryref11_Domain.calls k s _ w hk).mono ?_
  rintro e w' ⟨rfl, h⟩
  exact ⟨rfl, h.below⟩
set_option maxRecDepth 100000 in
set_option maxHeartbeats 4000000 in
theorem doms_walk (s : ByteArray) (w : World) (hsz : s.size ≤ 140737488351232) (hv : Vars w) :
    Calls Tryd.prog 6 #[.string s] w fun e w' => e = .returned (.bool true) ∧ Below w.heap.size w w' := by
  have HV := Aside0.mk hv
  clear hv
  go_enter Tryd.func6, Tryd.ntmps6
  by_cases hs : 300 < s.size
  · have t1 : decide ((300 : Int) < (s.size : Int)) = true := by simp; omega
    have t2 : decide (300 < s.size) = true := by simp; omega
    go_wp2_with (fail)
    go_ret
    exact ⟨rfl, Below.refl _ _⟩
  have t1 : decide ((300 : Int) < (s.size : Int)) = false := by simp; omega
  have t2 : decide (300 < s.size) = false := by simp; omega
  have hl : (lst s).length ≤ 505 := by rw [lst_length]; omega
  obtain ⟨D1, hD1⟩ : ∃ D, D = (str ehloW) ++ s := ⟨_, rfl⟩
  have hcat1 := cat_run (str ehloW) s D1 hD1 (by rw [str_size]; decide) (by omega)
  have hlst1 : lst D1 = ehloW ++ lst s := by rw [hD1, lst_append, lst_str]
  have hpa1 := fun w hv => parse_uni D1 w (by rw [← lst_length, hlst1, List.length_append]; have : ehloW.length = 5 := rfl; omega) hv
  rw [hlst1] at hpa1
  obtain ⟨hy1, hn1⟩ := uni_named ehloW (lst s) _ (ehlo_parse (lst s) hl)
  obtain ⟨D2, hD2⟩ : ∃ D, D = (str etrnW) ++ s := ⟨_, rfl⟩
  have hcat2 := cat_run (str etrnW) s D2 hD2 (by rw [str_size]; decide) (by omega)
  have hlst2 : lst D2 = etrnW ++ lst s := by rw [hD2, lst_append, lst_str]
  have hpa2 := fun w hv => parse_uni D2 w (by rw [← lst_length, hlst2, List.length_append]; have : etrnW.length = 5 := rfl; omega) hv
  rw [hlst2] at hpa2
  obtain ⟨hy2, hn2⟩ := uni_named etrnW (lst s) _ (etrn_parse (lst s) hl)
  obtain ⟨D3, hD3⟩ : ∃ D, D = (str atrnW) ++ s := ⟨_, rfl⟩
  have hcat3 := cat_run (str atrnW) s D3 hD3 (by rw [str_size]; decide) (by omega)
  have hlst3 : lst D3 = atrnW ++ lst s := by rw [hD3, lst_append, lst_str]
  have hpa3 := fun w hv => parse_uni D3 w (by rw [← lst_length, hlst3, List.length_append]; have : atrnW.length = 5 := rfl; omega) hv
  rw [hlst3] at hpa3
  obtain ⟨hy3, hn3⟩ := uni_named atrnW (lst s) _ (atrn_parse (lst s) hl)
  have hrd := fun w => rdom_any s w (by omega)
  obtain ⟨T, hT⟩ : ∃ T, T = V.domain (lst s) := ⟨_, rfl⟩
  rw [← hT] at hrd hy1 hy2 hy3 hn1 hn2 hn3
  have HRD := Aside0.mk hrd
  obtain ⟨c1, hc1⟩ : ∃ c, c = V.cmd (ehloW ++ lst s) := ⟨_, rfl⟩
  obtain ⟨n1, hnn1⟩ : ∃ n, n = V.code (ehloW ++ lst s) := ⟨_, rfl⟩
  rw [← hc1, ← hnn1] at hpa1 hy1 hn1
  have HPA1 := Aside0.mk hpa1
  have HY1 := Aside0.mk hy1
  have HN1 := Aside0.mk hn1
  rw [show (str ehloW : ByteArray) = ⟨#[69, 72, 76, 79, 32]⟩ from rfl] at hcat1
  obtain ⟨c2, hc2⟩ : ∃ c, c = V.cmd (etrnW ++ lst s) := ⟨_, rfl⟩
  obtain ⟨n2, hnn2⟩ : ∃ n, n = V.code (etrnW ++ lst s) := ⟨_, rfl⟩
  rw [← hc2, ← hnn2] at hpa2 hy2 hn2
  have HPA2 := Aside0.mk hpa2
  have HY2 := Aside0.mk hy2
  have HN2 := Aside0.mk hn2
  rw [show (str etrnW : ByteArray) = ⟨#[69, 84, 82, 78, 32]⟩ from rfl] at hcat2
  obtain ⟨c3, hc3⟩ : ∃ c, c = V.cmd (atrnW ++ lst s) := ⟨_, rfl⟩
  obtain ⟨n3, hnn3⟩ : ∃ n, n = V.code (atrnW ++ lst s) := ⟨_, rfl⟩
  rw [← hc3, ← hnn3] at hpa3 hy3 hn3
  have HPA3 := Aside0.mk hpa3
  have HY3 := Aside0.mk hy3
  have HN3 := Aside0.mk hn3
  rw [show (str atrnW : ByteArray) = ⟨#[65, 84, 82, 78, 32]⟩ from rfl] at hcat3
  clear hrd hD1 hlst1 hpa1 hy1 hn1 hc1 hnn1 hD2 hlst2 hpa2 hy2 hn2 hc2 hnn2 hD3 hlst3 hpa3 hy3 hn3 hc3 hnn3 hl hT
  go_upto_region 4 with (first | (go_at_call 13; (with_reducible refine Calls.mono (HRD.out _) ?_); rintro e wa ⟨rfl, h⟩; have HB0 := Aside0.mk h; clear h))
  have HV0 := Aside0.mk (HV.out.go HB0.out)
  go_upto_region 5 with (first | (go_at_call 10; (with_reducible refine Calls.mono (HPA1.out _ HV0.out) ?_); rintro e x1 ⟨⟨A1, q1, rfl, hC, hl⟩, h⟩; have H1 := Aside0.mk h; clear h hC hl))
  obtain ⟨w1, hw⟩ : ∃ w2, w2 = x1.alloc (.cells #[.int .i64 c1.kind, .string (str c1.text), .bool c1.path.null, .string (str c1.path.loc), .string (str c1.path.dom), .slice A1 c1.prms.length q1] 26) := ⟨_, rfl⟩
  rw [← hw]
  obtain ⟨G1, hG⟩ : ∃ G, G = x1.heap.size := ⟨_, rfl⟩
  rw [← hG]
  have hr : w1.heap[G1]? = some (.cells #[.int .i64 c1.kind, .string (str c1.text), .bool c1.path.null, .string (str c1.path.loc), .string (str c1.path.dom), .slice A1 c1.prms.length q1] 26 (0, 0)) := by rw [hw, hG]; exact heap_alloc_new _ _
  have hb1 : Below x1.heap.size x1 w1 := by rw [hw]; exact (Below.refl _ _).alloc (Nat.le_refl _) _
  have hb2 : Below wa.heap.size wa w1 := H1.out.trans (hb1.mono H1.out.size)
  have hs2 : G1 < w1.heap.size := (Array.getElem?_eq_some_iff.1 hr).1
  have hrow : ∀ wx, Below w1.heap.size w1 wx → wx.heap[G1]? = some (.cells #[.int .i64 c1.kind, .string (str c1.text), .bool c1.path.null, .string (str c1.path.loc), .string (str c1.path.dom), .slice A1 c1.prms.length q1] 26 (0, 0)) := fun wx h => (h.block _ hs2).trans hr
  have HRO1 := Aside0.mk hrow
  have HBB1 := Aside0.mk hb2
  have HB1 := Aside0.mk (HB0.out.trans (hb2.mono HB0.out.size))
  have HV1 := Aside0.mk (HV0.out.go hb2)
  clear hw hG hr hb1 hb2 hs2 hrow
  go_upto_region 6 with (first | (go_at_call 10; (with_reducible refine Calls.mono (HPA2.out _ HV1.out) ?_); rintro e x2 ⟨⟨A2, q2, rfl, hC, hl⟩, h⟩; have H2 := Aside0.mk h; clear h hC hl))
  obtain ⟨w2, hw⟩ : ∃ w2, w2 = x2.alloc (.cells #[.int .i64 c2.kind, .string (str c2.text), .bool c2.path.null, .string (str c2.path.loc), .string (str c2.path.dom), .slice A2 c2.prms.length q2] 26) := ⟨_, rfl⟩
  rw [← hw]
  obtain ⟨G2, hG⟩ : ∃ G, G = x2.heap.size := ⟨_, rfl⟩
  rw [← hG]
  have hr : w2.heap[G2]? = some (.cells #[.int .i64 c2.kind, .string (str c2.text), .bool c2.path.null, .string (str c2.path.loc), .string (str c2.path.dom), .slice A2 c2.prms.length q2] 26 (0, 0)) := by rw [hw, hG]; exact heap_alloc_new _ _
  have hb1 : Below x2.heap.size x2 w2 := by rw [hw]; exact (Below.refl _ _).alloc (Nat.le_refl _) _
  have hb2 : Below w1.heap.size w1 w2 := H2.out.trans (hb1.mono H2.out.size)
  have hs2 : G2 < w2.heap.size := (Array.getElem?_eq_some_iff.1 hr).1
  have hrow : ∀ wx, Below w2.heap.size w2 wx → wx.heap[G2]? = some (.cells #[.int .i64 c2.kind, .string (str c2.text), .bool c2.path.null, .string (str c2.path.loc), .string (str c2.path.dom), .slice A2 c2.prms.length q2] 26 (0, 0)) := fun wx h => (h.block _ hs2).trans hr
  have HRO2 := Aside0.mk hrow
  have HBB2 := Aside0.mk hb2
  have HB2 := Aside0.mk (HB1.out.trans (hb2.mono HB1.out.size))
  have HV2 := Aside0.mk (HV1.out.go hb2)
  clear hw hG hr hb1 hb2 hs2 hrow
  go_upto_region 7 with (first | (go_at_call 10; (with_reducible refine Calls.mono (HPA3.out _ HV2.out) ?_); rintro e x3 ⟨⟨A3, q3, rfl, hC, hl⟩, h⟩; have H3 := Aside0.mk h; clear h hC hl))
  obtain ⟨w3, hw⟩ : ∃ w2, w2 = x3.alloc (.cells #[.int .i64 c3.kind, .string (str c3.text), .bool c3.path.null, .string (str c3.path.loc), .string (str c3.path.dom), .slice A3 c3.prms.length q3] 26) := ⟨_, rfl⟩
  rw [← hw]
  obtain ⟨G3, hG⟩ : ∃ G, G = x3.heap.size := ⟨_, rfl⟩
  rw [← hG]
  have hr : w3.heap[G3]? = some (.cells #[.int .i64 c3.kind, .string (str c3.text), .bool c3.path.null, .string (str c3.path.loc), .string (str c3.path.dom), .slice A3 c3.prms.length q3] 26 (0, 0)) := by rw [hw, hG]; exact heap_alloc_new _ _
  have hb1 : Below x3.heap.size x3 w3 := by rw [hw]; exact (Below.refl _ _).alloc (Nat.le_refl _) _
  have hb2 : Below w2.heap.size w2 w3 := H3.out.trans (hb1.mono H3.out.size)
  have hs2 : G3 < w3.heap.size := (Array.getElem?_eq_some_iff.1 hr).1
  have hrow : ∀ wx, Below w3.heap.size w3 wx → wx.heap[G3]? = some (.cells #[.int .i64 c3.kind, .string (str c3.text), .bool c3.path.null, .string (str c3.path.loc), .string (str c3.path.dom), .slice A3 c3.prms.length q3] 26 (0, 0)) := fun wx h => (h.block _ hs2).trans hr
  have HRO3 := Aside0.mk hrow
  have HBB3 := Aside0.mk hb2
  have HB3 := Aside0.mk (HB2.out.trans (hb2.mono HB2.out.size))
  have HV3 := Aside0.mk (HV2.out.go hb2)
  clear hw hG hr hb1 hb2 hs2 hrow
  obtain ⟨⟨a0, a1, _, _, _, _⟩, _⟩ := cells6 (HRO1.out w3 (HBB2.out.trans (HBB3.out.mono HBB2.out.size)))
  obtain ⟨⟨b0, b1, _, _, _, _⟩, _⟩ := cells6 (HRO2.out w3 HBB3.out)
  obtain ⟨⟨d0, d1, _, _, _, _⟩, _⟩ := cells6 (HRO3.out w3 (Below.refl _ _))
  cases T
  · obtain ⟨e1, e2⟩ := HN1.out rfl
    obtain ⟨e3, e4⟩ := HN2.out rfl
    obtain ⟨e5, e6⟩ := HN3.out rfl
    rw [e1] at a0
    rw [e3] at b0
    rw [e5] at d0
    replace a0 : w3.cell? ⟨G1, 0, none⟩ = some (.int .i64 0) := a0
    replace b0 : w3.cell? ⟨G2, 0, none⟩ = some (.int .i64 0) := b0
    replace d0 : w3.cell? ⟨G3, 0, none⟩ = some (.int .i64 0) := d0
    have HE := Aside0.mk (show (n1 != 0 && n2 != 0 && n3 != 0) = true by simp [e2, e4, e6])
    clear a1 b1 d1 e1 e3 e5
    go_wp2_with (first | (go_at_call 12; (with_reducible refine Calls.mono (wakes_any _ HV3.out) ?_); rintro e w4 ⟨rfl, h⟩; have H4 := Aside0.mk h; clear h))
    go_ret
    refine ⟨?_, HB3.out.trans (H4.out.mono HB3.out.size)⟩
    show Ending.returned (Value.bool (n1 != 0 && n2 != 0 && n3 != 0)) = _
    rw [HE.out]
  · obtain ⟨e1, e2⟩ := HY1.out rfl
    obtain ⟨e3, e4⟩ := HY2.out rfl
    obtain ⟨e5, e6⟩ := HY3.out rfl
    rw [e1] at a0 a1
    rw [e3] at b0 b1
    rw [e5] at d0 d1
    replace a0 : w3.cell? ⟨G1, 0, none⟩ = some (.int .i64 1) := a0
    replace b0 : w3.cell? ⟨G2, 0, none⟩ = some (.int .i64 9) := b0
    replace d0 : w3.cell? ⟨G3, 0, none⟩ = some (.int .i64 11) := d0
    replace a1 : w3.cell? ⟨G1, 1, none⟩ = some (.string (str (lst s))) := a1
    replace b1 : w3.cell? ⟨G2, 1, none⟩ = some (.string (str (lst s))) := b1
    replace d1 : w3.cell? ⟨G3, 1, none⟩ = some (.string (str (lst s))) := d1
    rw [str_lst] at a1 b1 d1
    clear e1 e3 e5
    go_wp2_with (first | (go_at_call 12; (with_reducible refine Calls.mono (wakes_any _ HV3.out) ?_); rintro e w4 ⟨rfl, h⟩; have H4 := Aside0.mk h; clear h))
    go_ret
    exact ⟨rfl, HB3.out.trans (H4.out.mono HB3.out.size)⟩
end Go.Proofs.YteiknmcmaemcoaaDoor
