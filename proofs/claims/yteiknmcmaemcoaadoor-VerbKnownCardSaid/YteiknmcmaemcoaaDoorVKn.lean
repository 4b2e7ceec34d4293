/- VerbKnown: the walk. -/
import Derived.Test.YteiknmcmaemcoaaDoorProg
import Derived.WalkKit
import Derived.WalkLawsBesides
import Derived.Outline
import Derived.LoopTactic
import Derived.Lib.Hide
import Derived.Deep.QuietTactic
import Derived.BigQuiet
import Derived.Deep.LoopGhost
import Derived.Deep.DeepCutAuto
import Derived.Deep.CutBlock
import Derived.Deep.RegionHeld3
import Derived.Deep.RegionWith
import Derived.Deep.WholeRow
import Derived.Laws.Rows
import Derived.Laws.Tables
import Derived.Laws.ResultCell
import Derived.StillTailTactics
import Derived.Deep.DeepMust
import Derived.IntWalk
import Derived.KernelRfl
import Derived.Test.YteiknmcmaemcoaaDoorWWords
import Derived.Test.YteiknmcmaemcoaaDoorWLast
import Derived.Test.YteiknmcmaemcoaaDoorWMore
import Derived.RegionTactic
import Derived.Test.YteiknmcmaemcoaaDoorVy
namespace Go.Proofs.YteiknmcmaemcoaaDoor
open Go.RowKit Go.Lib
open Go.Proofs.YteiknmcmaemcoaaDoorW.PrintWords Go.Proofs.YteiknmcmaemcoaaDoorW.PrintLast Go.Proofs.YteiknmcmaemcoaaDoorW.PrintMore
set_option linter.unusedVariables false
set_option linter.unusedSimpArgs false
def knL : List V.Bs := [[72, 69, 76, 79, 32, 104], [100, 97, 116, 97], [68, 65, 84, 65, 32], [114, 115, 101, 116], [81, 117, 105, 116], [78, 79, 79, 80], [78, 79, 79, 80, 32, 120, 32, 121], [86, 82, 70, 89], [86, 82, 70, 89, 32, 117], [69, 84, 82, 78, 32, 98, 46, 120], [69, 84, 82, 78], [69, 84, 82, 78, 32, 64, 98], [65, 85, 84, 72, 32, 99, 114, 97, 109, 45, 109, 100, 53], [65, 85, 84, 72, 32, 80, 76, 65, 73, 78], [65, 85, 84, 72], [65, 85, 84, 72, 32], [65, 84, 82, 78], [65, 84, 82, 78, 32, 98, 46, 120], [65, 84, 82, 78, 32], [69, 72, 76, 79], [], [32, 68, 65, 84, 65], [68, 65, 84, 65, 88], [77, 65, 73, 76], [82, 67, 80, 84, 32, 84, 79], [82, 83, 69, 84, 32, 120]]
def knC : List Int := [0, 0, 501, 0, 0, 0, 0, 501, 0, 0, 501, 501, 0, 504, 501, 501, 0, 0, 501, 501, 500, 500, 500, 501, 501, 501]
def knK : List Int := [1, 4, 0, 5, 8, 7, 7, 0, 6, 9, 0, 0, 10, 0, 0, 0, 11, 11, 0, 0, 0, 0, 0, 0, 0, 0]
def knV : Array Value := (knL.map fun l => Value.string (str l)).toArray
def knCV : Array Value := (knC.map (Value.int .i64)).toArray
def knKV : Array Value := (knK.map (Value.int .i64)).toArray
theorem kn_all : (List.range 26).all (fun j => decide (V.code (knL.getD j []) = knC.getD j 0) && decide ((V.cmd (knL.getD j [])).kind = knK.getD j 0) && decide ((knL.getD j []).length ≤ 100)) = true := by decide +kernel
theorem kn_one (j : Nat) (h : j < 26) : V.code (knL.getD j []) = knC.getD j 0 ∧ (V.cmd (knL.getD j [])).kind = knK.getD j 0 ∧ (knL.getD j []).length ≤ 100 := by
  have := List.all_eq_true.1 kn_all j (List.mem_range.2 h)
  simpa [and_assoc] using this
theorem kn_v (j : Nat) (h : j < 26) : knV[j]? = some (.string (str (knL.getD j []))) := by
  simp only [knV, List.getElem?_toArray, List.getElem?_map, List.getD_eq_getElem?_getD]
  rw [List.getElem?_eq_getElem h]; rfl
theorem kn_cv (j : Nat) (h : j < 26) : knCV[j]? = some (.int .i64 (knC.getD j 0)) := by
  simp only [knCV, List.getElem?_toArray, List.getElem?_map, List.getD_eq_getElem?_getD]
  rw [List.getElem?_eq_getElem h]; rfl
theorem kn_kv (j : Nat) (h : j < 26) : knKV[j]? = some (.int .i64 (knK.getD j 0)) := by
  simp only [knKV, List.getElem?_toArray, List.getElem?_map, List.getD_eq_getElem?_getD]
  rw [List.getElem?_eq_getElem h]; rfl
set_option maxRecDepth 100000 in
set_option maxHeartbeats 4000000 in
theorem known_any (n : Int) (w : World) (hn : (Lit.int .i64 n).wf = true) (hv : Vars w) :
    Calls Tryd.prog 5 #[.int .i64 n] w fun e w' => e = .returned (.bool true) ∧ Below w.heap.size w w' := by
  clear hn
  go_enter Tryd.func5, Tryd.ntmps5
  go_upto_region 1 with (fail)
  go_cut [3] (fun v3 wc => ∃ b3 : Nat, v3 = .slice (some ⟨b3, 0, none⟩) 26 26 ∧ Aside0 (wc.heap[b3]? = some (.cells knV 9 (0, 0))) ∧ Aside0 (Below w.heap.size w wc))
  case first =>
    go_wp2_with (fail)
    go_meet
    case rel => exact ⟨w.heap.size, rfl, ⟨heap_alloc_new _ _⟩, ⟨(Below.refl _ _).alloc (Nat.le_refl _) _⟩⟩
  case rest =>
  obtain ⟨b3, rfl, H3, HA⟩ := hcut
  obtain ⟨wa, rfl⟩ : ∃ wa : World, wa = wc := ⟨_, rfl⟩
  go_upto_region 2 with (fail)
  go_cut [4] (fun v4 wc => ∃ b4 : Nat, v4 = .slice (some ⟨b4, 0, none⟩) 26 26 ∧ Aside0 (wc.heap[b4]? = some (.cells knCV 3 (0, 0))) ∧ Aside0 (Below wa.heap.size wa wc))
  case first =>
    go_wp2_with (fail)
    go_meet
    case rel => exact ⟨wa.heap.size, rfl, ⟨heap_alloc_new _ _⟩, ⟨(Below.refl _ _).alloc (Nat.le_refl _) _⟩⟩
  case rest =>
  obtain ⟨b4, rfl, H4, HB⟩ := hcut
  obtain ⟨wb, rfl⟩ : ∃ wb : World, wb = wc := ⟨_, rfl⟩
  go_upto_region 3 with (fail)
  go_cut [5] (fun v5 wc => ∃ b5 : Nat, v5 = .slice (some ⟨b5, 0, none⟩) 26 26 ∧ Aside0 (wc.heap[b5]? = some (.cells knKV 3 (0, 0))) ∧ Aside0 (Below wb.heap.size wb wc))
  case first =>
    go_wp2_with (fail)
    go_meet
    case rel => exact ⟨wb.heap.size, rfl, ⟨heap_alloc_new _ _⟩, ⟨(Below.refl _ _).alloc (Nat.le_refl _) _⟩⟩
  case rest =>
  obtain ⟨b5, rfl, H5, HC⟩ := hcut
  obtain ⟨wx, rfl⟩ : ∃ wx : World, wx = wc := ⟨_, rfl⟩
  have l3 : b3 < wa.heap.size := (Array.getElem?_eq_some_iff.1 H3.out).1
  have l4 : b4 < wb.heap.size := (Array.getElem?_eq_some_iff.1 H4.out).1
  have l5 : b5 < wx.heap.size := (Array.getElem?_eq_some_iff.1 H5.out).1
  have hab := HB.out.size
  have hbc := HC.out.size
  have h3 := (HC.out.block b3 (by omega)).trans ((HB.out.block b3 l3).trans H3.out)
  have h4 := (HC.out.block b4 l4).trans H4.out
  have hbx : Below w.heap.size w wx := HA.out.trans ((HB.out.trans (HC.out.mono hab)).mono HA.out.size)
  have H3' := Aside0.mk (And.intro h3 (show b3 < wx.heap.size by omega))
  have H4' := Aside0.mk (And.intro h4 (show b4 < wx.heap.size by omega))
  have H5' := Aside0.mk (And.intro H5.out l5)
  have HW := Aside0.mk hbx
  have HV := Aside0.mk (hv.go hbx)
  clear H3 H4 H5 HA HB HC h3 h4 hbx l3 l4 l5 hab hbc hv
  obtain ⟨q, hq, hql⟩ := rounds_small n 26 (by decide) (by decide)
  go_upto_region 5 with (fail)
  have hq' : wrap64 ((IntKind.u64.wrap n).tmod 26) = (q : Int) := hq
  rw [hq']
  clear hq hq'
  obtain ⟨r1, r2, r3⟩ := kn_one q hql
  have ct : wx.cell? ⟨b3, q, none⟩ = some (.string (str (knL.getD q []))) := by rw [cell_of_row wx b3 _ _ _ _ H3'.out.1]; exact kn_v q hql
  have hpa := fun w hv => parse_uni (str (knL.getD q [])) w (by rw [str_size]; omega) hv
  rw [lst_str, r1] at hpa
  obtain ⟨T, hT⟩ : ∃ T, T = str (knL.getD q []) := ⟨_, rfl⟩
  obtain ⟨c, hc⟩ : ∃ c, c = V.cmd (knL.getD q []) := ⟨_, rfl⟩
  rw [← hT] at hpa ct
  rw [← hc] at hpa r2
  have c4 : wx.cell? ⟨b4, q, none⟩ = some (.int .i64 (knC.getD q 0)) := by rw [cell_of_row wx b4 _ _ _ _ H4'.out.1]; exact kn_cv q hql
  have HP := Aside0.mk hpa
  have HR2 := Aside0.mk r2
  have HQ := Aside0.mk hql
  obtain ⟨Q, hQ⟩ : ∃ Q : Int, Q = (q : Int) := ⟨_, rfl⟩
  have g1 : 0 ≤ (q : Int) := by omega
  have g2 : (q : Int) < 26 := by omega
  clear hT hc hpa r1 r2 r3 hQ
  obtain ⟨k4, hk4⟩ : ∃ k4, k4 = knC.getD q 0 := ⟨_, rfl⟩
  rw [← hk4] at HP c4
  obtain ⟨k5, hk5⟩ : ∃ k5, k5 = knK.getD q 0 := ⟨_, rfl⟩
  rw [← hk5] at HR2
  have HK4 := Aside0.mk hk4
  have HK5 := Aside0.mk hk5
  clear hk4 hk5
  go_upto_region 6 with (first | (go_at_call 10; (with_reducible refine Calls.mono (HP.out _ HV.out) ?_); rintro e w1 ⟨⟨A, qq, rfl, hC, hl⟩, h⟩; have H1 := Aside0.mk h; clear h hC hl))
  obtain ⟨w2, hw2⟩ : ∃ w2, w2 = w1.alloc (.cells #[.int .i64 c.kind, .string (str c.text), .bool c.path.null, .string (str c.path.loc), .string (str c.path.dom), .slice A c.prms.length qq] 26) := ⟨_, rfl⟩
  rw [← hw2]
  obtain ⟨G, hG⟩ : ∃ G, G = w1.heap.size := ⟨_, rfl⟩
  rw [← hG]
  have hr2 : w2.heap[G]? = some (.cells #[.int .i64 c.kind, .string (str c.text), .bool c.path.null, .string (str c.path.loc), .string (str c.path.dom), .slice A c.prms.length qq] 26 (0, 0)) := by rw [hw2, hG]; exact heap_alloc_new _ _
  have hb12 : Below w1.heap.size w1 w2 := by rw [hw2]; exact (Below.refl _ _).alloc (Nat.le_refl _) _
  have hb2 : Below wx.heap.size wx w2 := H1.out.trans (hb12.mono H1.out.size)
  obtain ⟨⟨a0, _⟩, _⟩ := cells6 hr2
  rw [HR2.out] at a0
  have d4 : w2.cell? ⟨b4, q, none⟩ = some (.int .i64 k4) := by rw [cell_of_row w2 b4 _ _ _ _ ((hb2.block b4 H4'.out.2).trans H4'.out.1), HK4.out]; exact kn_cv q HQ.out
  have d5 : w2.cell? ⟨b5, q, none⟩ = some (.int .i64 k5) := by rw [cell_of_row w2 b5 _ _ _ _ ((hb2.block b5 H5'.out.2).trans H5'.out.1), HK5.out]; exact kn_kv q HQ.out
  have HB2 := Aside0.mk hb2
  have HV2 := Aside0.mk (HV.out.go hb2)
  clear hw2 hG hr2 hb12 hb2 ct c4
  go_region_with (first | (go_at_call 12; (with_reducible refine Calls.mono (wakes_any _ (HV2.out.on ⟨rfl, rfl, rfl, Nat.le_refl _, fun _ _ => rfl⟩ HV2.out.low)) ?_); rintro e w3 ⟨rfl, h⟩; have H3 := Aside0.mk h; clear h))
  all_goals go_wp2_with (fail)
  all_goals
    have G3 : Below w2.heap.size w2 w3 := ⟨H3.out.os, H3.out.tape, H3.out.output, H3.out.size, H3.out.block⟩
    have G4 := HW.out.trans (HB2.out.mono HW.out.size)
    have G5 := G4.trans (G3.mono G4.size)
    go_ret
    exact ⟨rfl, G5⟩
end Go.Proofs.YteiknmcmaemcoaaDoor
