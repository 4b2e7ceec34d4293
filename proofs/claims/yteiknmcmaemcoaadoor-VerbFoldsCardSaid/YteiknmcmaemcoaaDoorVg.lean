/- What verb's after and one answer. -/
import Derived.Test.YteiknmcmaemcoaaDoorProg
import Derived.WalkKit
import Derived.WalkLawsBesides
import Derived.Outline
import Derived.LoopTactic
import Derived.Lib.Hide
import Derived.Deep.QuietTactic
import Derived.BigQuiet
import Derived.Deep.LoopGhost
import Derived.Deep.DeepCutAuto
import Derived.Deep.CutBlock
import Derived.Deep.RegionHeld3
import Derived.Deep.RegionWith
import Derived.Deep.WholeRow
import Derived.Laws.Rows
import Derived.Laws.Tables
import Derived.Laws.ResultCell
import Derived.StillTailTactics
import Derived.Deep.DeepMust
import Derived.IntWalk
import Derived.KernelRfl
import Derived.Test.YteiknmcmaemcoaaDoorWWords
import Derived.Test.YteiknmcmaemcoaaDoorWLast
import Derived.Test.YteiknmcmaemcoaaDoorWMore
import Derived.RegionTactic
import Derived.Test.YteiknmcmaemcoaaDoorVf
namespace Go.Proofs.YteiknmcmaemcoaaDoor
open Go.RowKit Go.Lib
open Go.Proofs.YteiknmcmaemcoaaDoorW.PrintWords
set_option linter.unusedVariables false
set_option linter.unusedSimpArgs false
set_option maxRecDepth 100000 in
set_option maxHeartbeats 1000000 in
theorem oneCl_any (x s : ByteArray) (B : Nat) (w : World) (hx : x.size ≤ 1000000) (hs : s.size ≤ 1000000) (hB : B < w.heap.size) (hc : w.cell? ⟨B, 0, none⟩ = some (.string s)) :
    Calls Tryd.prog 72 #[.string x, .pointer (some ⟨B, 0, none⟩)] w fun e w' => e = .returned (.bool (decide (V.fold (lst x) = V.fold (lst s)))) ∧ Below w.heap.size w w' := by
  have hkeep : ∀ w' : World, (∀ j, j < w.heap.size → w'.heap[j]? = w.heap[j]?) → w'.cell? ⟨B, 0, none⟩ = some (.string s) := fun w' h => (by unfold World.cell?; rw [h B hB] : w'.cell? ⟨B, 0, none⟩ = w.cell? ⟨B, 0, none⟩).trans hc
  have HK := Aside0.mk hkeep
  have he : ((foldB x).toList == (foldB s).toList) = decide (V.fold (lst x) = V.fold (lst s)) := by
    rw [str_eqB, foldB, foldB, lst_str, lst_str]
  have HE := Aside0.mk he
  clear hkeep he
  go_enter Tryd.func72, Tryd.ntmps72
  go_wp2_with (fail)
  go_region_with (first | (go_at_call 17; (with_reducible refine Calls.mono (fold_any x _ hx) ?_); rintro e w1 ⟨rfl, h⟩; have H1 := Aside0.mk h; have hc1 := HK.out w1 h.block; clear h) | (go_at_call 17; (with_reducible refine Calls.mono (fold_any s _ hs) ?_); rintro e w2 ⟨rfl, h⟩; have H2 := Aside0.mk h; clear h))
  all_goals go_wp2_with (fail)
  all_goals
    have G1 : Below w.heap.size w w1 := ⟨H1.out.os, H1.out.tape, H1.out.output, H1.out.size, H1.out.block⟩
    have G2 : Below w1.heap.size w1 w2 := ⟨H2.out.os, H2.out.tape, H2.out.output, H2.out.size, H2.out.block⟩
    have G3 := G1.trans (G2.mono G1.size)
    go_ret
    refine ⟨?_, ⟨G3.os, G3.tape, G3.output, G3.size, G3.block⟩⟩
    show Ending.returned (Value.bool ((foldB x).toList == (foldB s).toList)) = _
    rw [HE.out]
/-- The first of some words that is a text, folded. -/
def V.find (l : V.Bs) (ws : List V.Bs) (k : Nat) : Option Nat := match ws with
  | [] => none
  | x :: t => if V.fold x = V.fold l then some k else V.find l t (k + 1)
def V.findI (l : V.Bs) (ws : List V.Bs) : Int := match V.find l ws 0 with
  | none => -1
  | some k => k
theorem V.find_drop (l : V.Bs) (ws : List V.Bs) : ∀ n, n ≤ ws.length → (∀ j, j < n → ¬ V.fold (ws.getD j []) = V.fold l) → V.find l ws 0 = V.find l (ws.drop n) n := by
  intro n
  induction n with
  | zero => intro _ _; rfl
  | succ n ih =>
    intro hn h
    rw [ih (by omega) (fun j hj => h j (by omega))]
    have h2 := h n (by omega)
    rw [List.getD_eq_getElem?_getD, List.getElem?_eq_getElem (by omega)] at h2
    rw [List.drop_eq_getElem_cons (by omega), V.find, if_neg (by simpa using h2)]
set_option maxRecDepth 100000 in
set_option maxHeartbeats 1000000 in
theorem idxf_any (ws : List V.Bs) (hws : ∀ x ∈ ws, x.length ≤ 1000000) (hn : ws.length ≤ 1000000) (s : ByteArray) (hs : s.size ≤ 1000000) (b c B t : Nat) (w : World) (hB : B < w.heap.size) (hc : w.cell? ⟨B, 0, none⟩ = some (.string s))
    (hb : w.heap[b]? = some (.cells ((ws.map fun l => Value.string (str l))).toArray t (0, 0))) :
    Calls Tryd.prog 71 #[.slice (some ⟨b, 0, none⟩) ws.length c, .func (.func 72) #[] #[.pointer (some ⟨B, 0, none⟩)]] w fun e w' => e = .returned (.int .i64 (V.findI (lst s) ws)) ∧ Below w.heap.size w w' := by
  have hbl : b < w.heap.size := (Array.getElem?_eq_some_iff.1 hb).1
  obtain ⟨T, hT⟩ : ∃ T, T = V.findI (lst s) ws := ⟨_, rfl⟩
  rw [← hT]
  have HT := Aside0.mk hT
  have HB := Aside0.mk hb
  have HC := Aside0.mk hc
  clear hT hb hc
  go_enter Tryd.func71, Tryd.ntmps71
  go_wp2_with (fail)
  go_loopg [8] ws.length (fun g v8 wr => ∃ n : Nat, n ≤ ws.length ∧ g + n = ws.length ∧ v8 = .int .i64 n ∧ Aside0 ((∀ j, j < n → ¬ V.fold (ws.getD j []) = V.fold (lst s)) ∧ Below w.heap.size w wr))
  case atStart => exact ⟨0, by omega, by omega, rfl, ⟨fun j hj => by omega, Below.refl _ _⟩⟩
  case round =>
    obtain ⟨n, hn2, hg, rfl, H⟩ := hrel
    obtain ⟨wx, rfl⟩ : ∃ wz : World, wz = wr := ⟨_, rfl⟩
    by_cases hlt : n < ws.length
    · obtain ⟨x, hx⟩ : ∃ x, x = ws[n] := ⟨_, rfl⟩
      have hxl : (str x).size ≤ 1000000 := by rw [str_size, hx]; exact hws _ (List.getElem_mem hlt)
      have hcell : wx.cell? ⟨b, n, none⟩ = some (.string (str x)) := by
        rw [H.out.2.cell (p := ⟨b, n, none⟩) hbl, cell_of_row w b _ _ _ _ HB.out]
        rw [List.getElem?_toArray, List.getElem?_map, List.getElem?_eq_getElem hlt, hx]
        rfl
      have hcs : wx.cell? ⟨B, 0, none⟩ = some (.string s) := (H.out.2.cell (p := ⟨B, 0, none⟩) hB).trans HC.out
      have hBx : B < wx.heap.size := Nat.lt_of_lt_of_le hB H.out.2.size
      have hlt' : (n : Int) < (ws.length : Int) := by omega
      have h0 : (0 : Int) ≤ (n : Int) := by omega
      have HX := Aside0.mk hx
      have HCS := Aside0.mk hcs
      clear hx hcs
      by_cases hp : V.fold x = V.fold (lst s)
      · have hT : T = n := by
          rw [HT.out]
          unfold V.findI
          rw [V.find_drop (lst s) ws n hn2 H.out.1, List.drop_eq_getElem_cons hlt, V.find, if_pos (by rw [← HX.out]; exact hp)]
        have HTF := Aside0.mk hT
        have HP := Aside0.mk hp
        clear hT hp
        go_wp2_with (first | (go_at_call 72; (with_reducible refine Calls.mono (oneCl_any (str x) s B wx hxl hs hBx HCS.out) ?_); rintro e w1 ⟨rfl, h⟩; have H1 := Aside0.mk h; clear h; rw [lst_str, decide_eq_true HP.out]))
        go_ret
        exact ⟨by rw [HTF.out]; rfl, H.out.2.trans (H1.out.mono H.out.2.size)⟩
      · have HP := Aside0.mk hp
        clear hp
        go_wp2_with (first | (go_at_call 72; (with_reducible refine Calls.mono (oneCl_any (str x) s B wx hxl hs hBx HCS.out) ?_); rintro e w1 ⟨rfl, h⟩; have H1 := Aside0.mk h; clear h; rw [lst_str, decide_eq_false HP.out]))
        go_roundg (gk - 1)
        case measure => omega
        case rel =>
          refine ⟨n + 1, by omega, by omega, by go_num, ⟨fun j hj => ?_, H.out.2.trans (H1.out.mono H.out.2.size)⟩⟩
          by_cases hjn : j = n
          · subst hjn
            rw [List.getD_eq_getElem?_getD, List.getElem?_eq_getElem hlt]
            show ¬ V.fold ws[j] = _
            rw [← HX.out]
            exact HP.out
          · exact H.out.1 j (by omega)
    · have hne : n = ws.length := by omega
      have hT : T = -1 := by
        rw [HT.out]
        unfold V.findI
        rw [V.find_drop (lst s) ws n hn2 H.out.1, hne, List.drop_length]
        rfl
      have HTF := Aside0.mk hT
      have t1 : decide ((n : Int) < (ws.length : Int)) = false := by simp; omega
      have t2 : decide (n < ws.length) = false := by simp; omega
      clear hT hne
      go_wp2_with (fail)
      go_ret
      exact ⟨by rw [HTF.out]; rfl, H.out.2⟩
def V.one (l : V.Bs) (ws : List V.Bs) : Option V.Bs := (V.find l ws 0).map fun k => ws.getD k []
/-- A text or none, and whether it is one. -/
def oRes (o : Option V.Bs) : Value := .tuple #[.string (str (o.getD [])), .bool o.isSome]
theorem V.find_lt (l : V.Bs) : ∀ (ws : List V.Bs) (k n : Nat), V.find l ws k = some n → k ≤ n ∧ n < k + ws.length
  | [], k, n, h => by simp [V.find] at h
  | x :: t, k, n, h => by
    unfold V.find at h
    split at h
    · simp at h; subst h; simp
    · have := V.find_lt l t (k + 1) n h; simp; omega
set_option maxRecDepth 100000 in
set_option maxHeartbeats 1000000 in
theorem one_any (ws : List V.Bs) (hws : ∀ x ∈ ws, x.length ≤ 1000000) (hn : ws.length ≤ 1000000) (s : ByteArray) (hs : s.size ≤ 1000000) (b c t : Nat) (w : World)
    (hb : w.heap[b]? = some (.cells ((ws.map fun l => Value.string (str l))).toArray t (0, 0))) :
    Calls Tryd.prog 58 #[.string s, .slice (some ⟨b, 0, none⟩) ws.length c] w fun e w' => e = .returned (oRes (V.one (lst s) ws)) ∧ Below w.heap.size w w' := by
  obtain ⟨T, hT⟩ : ∃ T, T = oRes (V.one (lst s) ws) := ⟨_, rfl⟩
  rw [← hT]
  have HT := Aside0.mk hT
  have hbl : b < w.heap.size := (Array.getElem?_eq_some_iff.1 hb).1
  obtain ⟨wA, hwA⟩ : ∃ wA, wA = w.alloc (.cells #[.string s] 9) := ⟨_, rfl⟩
  have hb2 : wA.heap[b]? = some (.cells ((ws.map fun l => Value.string (str l))).toArray t (0, 0)) := by rw [hwA, heap_alloc_old _ _ hbl]; exact hb
  have hc2 : wA.cell? ⟨w.heap.size, 0, none⟩ = some (.string s) := by rw [hwA]; simp
  have hs2 : w.heap.size < wA.heap.size := by rw [hwA]; simp
  have hbA : Below w.heap.size w wA := by rw [hwA]; exact (Below.refl _ w).alloc (Nat.le_refl _) _
  have hcon := idxf_any ws hws hn s hs b c w.heap.size t wA hs2 hc2 hb2
  have HC := Aside0.mk hcon
  have HB2 := Aside0.mk hb2
  have HBA := Aside0.mk hbA
  clear hT hb hb2 hbA hcon hc2
  subst hwA
  go_enter Tryd.func58, Tryd.ntmps58
  cases hf : V.find (lst s) ws 0 with
  | none =>
    have hv : V.findI (lst s) ws = -1 := by unfold V.findI; rw [hf]
    have hT : T = .tuple #[.string (str []), .bool false] := by rw [HT.out]; unfold V.one; rw [hf]; rfl
    have HTF := Aside0.mk hT
    have HV := Aside0.mk hv
    clear hT hv
    go_wp2_with (first | (go_at_call 71; (with_reducible refine Calls.mono HC.out ?_); rintro e w1 ⟨rfl, h⟩; have H1 := Aside0.mk h; clear h; rw [HV.out]))
    go_ret2
    exact ⟨by rw [HTF.out]; rfl, HBA.out.trans (H1.out.mono HBA.out.size)⟩
  | some k =>
    have hk := V.find_lt _ _ _ _ hf
    have hkl : k < ws.length := by omega
    have hv : V.findI (lst s) ws = k := by unfold V.findI; rw [hf]
    have hT : T = .tuple #[.string (str (ws.getD k [])), .bool true] := by rw [HT.out]; unfold V.one; rw [hf]; rfl
    have HTF := Aside0.mk hT
    have HV := Aside0.mk hv
    have hk1 : (k : Int) < (ws.length : Int) := by omega
    have hk0 : (0 : Int) ≤ (k : Int) := by omega
    obtain ⟨x, hx⟩ : ∃ x, x = ws.getD k [] := ⟨_, rfl⟩
    rw [← hx] at HTF
    obtain ⟨wA, hwA⟩ : ∃ wA, wA = w.alloc (.cells #[.string s] 9) := ⟨_, rfl⟩
    have HB3 := HB2.out
    rw [← hwA] at HB3 hs2
    have hcell : ∀ w1, Below wA.heap.size wA w1 → w1.cell? ⟨b, k, none⟩ = some (.string (str x)) := by
      intro w1 h1
      rw [h1.cell (p := ⟨b, k, none⟩) (show b < wA.heap.size by omega), cell_of_row wA b _ _ _ _ HB3, List.getElem?_toArray, List.getElem?_map, List.getElem?_eq_getElem hkl, hx, List.getD_eq_getElem?_getD, List.getElem?_eq_getElem hkl]
      rfl
    have HCE := Aside0.mk hcell
    subst hwA
    clear hT hv hf hk hcell hx HB3
    go_wp2_with (first | (go_at_call 71; (with_reducible refine Calls.mono HC.out ?_); rintro e w1 ⟨rfl, h⟩; have hcx := HCE.out _ h; have H1 := Aside0.mk h; clear h; rw [HV.out]))
    go_ret2
    exact ⟨by rw [HTF.out]; rfl, HBA.out.trans (H1.out.mono HBA.out.size)⟩
end Go.Proofs.YteiknmcmaemcoaaDoor
