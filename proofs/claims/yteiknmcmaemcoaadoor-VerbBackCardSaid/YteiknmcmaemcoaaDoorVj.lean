/- What verb's number and value answer. -/
import Derived.Test.YteiknmcmaemcoaaDoorProg
import Derived.WalkKit
import Derived.WalkLawsBesides
import Derived.Outline
import Derived.LoopTactic
import Derived.Lib.Hide
import Derived.Deep.QuietTactic
import Derived.BigQuiet
import Derived.Deep.LoopGhost
import Derived.Deep.DeepCutAuto
import Derived.Deep.CutBlock
import Derived.Deep.RegionHeld3
import Derived.Deep.RegionWith
import Derived.Deep.WholeRow
import Derived.Laws.Rows
import Derived.Laws.Tables
import Derived.Laws.ResultCell
import Derived.StillTailTactics
import Derived.Deep.DeepMust
import Derived.IntWalk
import Derived.KernelRfl
import Derived.Test.YteiknmcmaemcoaaDoorWWords
import Derived.Test.YteiknmcmaemcoaaDoorWLast
import Derived.Test.YteiknmcmaemcoaaDoorWMore
import Derived.RegionTactic
import Derived.Test.YteiknmcmaemcoaaDoorVi
namespace Go.Proofs.YteiknmcmaemcoaaDoor
open Go.RowKit Go.Lib
open Go.Proofs.YteiknmcmaemcoaaDoorW.PrintWords
set_option linter.unusedVariables false
set_option linter.unusedSimpArgs false
/-- A number of few digits? -/
def V.number (l : V.Bs) : Bool := match Lib.atoiAll l with
  | .ok v => decide (0 ≤ v) && (decide (l.length ≤ 9) && decide (Lib.itoa v = l))
  | _ => false
theorem Below.one {w w' : World} (h : w' = w ∨ ∃ t, w' = Lib.bytesWorld w 5 t) : Below w.heap.size w w' := by
  rcases h with rfl | ⟨t, rfl⟩
  · exact Below.refl _ _
  · exact Lib.bytesWorld_below w _ t
theorem num_cases (x : Lib.NumEnd Int) : (∃ v, x = Lib.NumEnd.ok v) ∨ x = Lib.NumEnd.syntax ∨ x = Lib.NumEnd.range := by
  cases x <;> simp
set_option maxRecDepth 100000 in
set_option maxHeartbeats 1000000 in
theorem number_any (s : ByteArray) (w : World) (hs : s.size ≤ 100000) (hv : Vars w) :
    Calls Tryd.prog 73 #[.string s] w fun e w' => e = .returned (.bool (V.number (lst s))) ∧ Below w.heap.size w w' := by
  obtain ⟨T, hT⟩ : ∃ T, T = V.number (lst s) := ⟨_, rfl⟩
  rw [← hT]
  have HT := Aside0.mk hT
  have HV := Aside0.mk hv
  clear hT hv
  go_enter Tryd.func73, Tryd.ntmps73
  rcases num_cases (Lib.atoiAll (lst s)) with ⟨v, ha⟩ | ha | ha
  · skip
    have hb := Lib.atoiAll_bounds ha
    have hT : T = (decide (0 ≤ v) && (decide (s.size ≤ 9) && decide (Lib.itoa v = lst s))) := by rw [HT.out]; unfold V.number; rw [ha, lst_length]
    have HTF := Aside0.mk hT
    have hc1 := Tryd.strconv_Atoi_ok s (by omega) v ha w
    have HC1 := Aside0.mk hc1
    have HBD := Aside0.mk hb
    obtain ⟨I, hI⟩ : ∃ I : ByteArray, I = ⟨(Lib.itoa v).toArray⟩ := ⟨_, rfl⟩
    have hc2 : ∀ w1, Vars w1 → Calls Tryd.prog 77 #[.int .i64 v] w1 fun e w' => e = .returned (.string I) ∧ Below w1.heap.size w1 w' := by
      intro w1 hv1
      refine (Tryd.strconv_Itoa v (by have := HBD.out; omega) (by have := HBD.out; omega) w1 hv1.pow).mono ?_
      rintro e w' ⟨rfl, k, os, rfl⟩
      exact ⟨by rw [hI], below_grown _ k os⟩
    have HC2 := Aside0.mk hc2
    have he : (I.toList == s.toList) = decide (Lib.itoa v = lst s) := by rw [str_eqB, hI]; rfl
    have HE := Aside0.mk he
    clear hT ha hb hc1 hc2 hI he
    by_cases hpos : 0 ≤ v
    · by_cases hlen : s.size ≤ 9
      · have h9 : (s.size : Int) ≤ 9 := by omega
        go_wp2_with (first | (go_at_call 76; (with_reducible refine Calls.mono HC1.out ?_); rintro e w1 ⟨rfl, h⟩; have H1 := Aside0.mk (Below.one h); clear h) | (go_at_call 77; (with_reducible refine Calls.mono (HC2.out _ (HV.out.go H1.out)) ?_); rintro e w2 ⟨rfl, h⟩; have H2 := Aside0.mk h; clear h))
        go_ret
        refine ⟨?_, H1.out.trans (H2.out.mono H1.out.size)⟩
        rw [HTF.out, decide_eq_true hpos, decide_eq_true hlen, ← HE.out]
        rfl
      · have h9 : decide ((s.size : Int) ≤ 9) = false := by simp; omega
        have h9b : decide (s.size ≤ 9) = false := by simp; omega
        go_wp2_with (first | (go_at_call 76; (with_reducible refine Calls.mono HC1.out ?_); rintro e w1 ⟨rfl, h⟩; have H1 := Aside0.mk (Below.one h); clear h) | (go_at_call 77; (with_reducible refine Calls.mono (HC2.out _ (HV.out.go H1.out)) ?_); rintro e w2 ⟨rfl, h⟩; have H2 := Aside0.mk h; clear h))
        go_ret
        refine ⟨?_, H1.out⟩
        rw [HTF.out, decide_eq_true hpos, h9b]
        rfl
    · have hneg : decide (0 ≤ v) = false := decide_eq_false hpos
      go_wp2_with (first | (go_at_call 76; (with_reducible refine Calls.mono HC1.out ?_); rintro e w1 ⟨rfl, h⟩; have H1 := Aside0.mk (Below.one h); clear h) | (go_at_call 77; (with_reducible refine Calls.mono (HC2.out _ (HV.out.go H1.out)) ?_); rintro e w2 ⟨rfl, h⟩; have H2 := Aside0.mk h; clear h))
      go_ret
      refine ⟨?_, H1.out⟩
      rw [HTF.out, hneg]
      rfl
  · skip
    have hT : T = false := by rw [HT.out]; unfold V.number; rw [ha]
    have HTF := Aside0.mk hT
    obtain ⟨tp, p, hp⟩ := HV.out.syn
    have hc1 := Tryd.strconv_Atoi_syntax_var s (by omega) ha tp p w hp
    have HC1 := Aside0.mk hc1
    clear hT ha hc1 hp
    go_wp2_with (first | (go_at_call 76; (with_reducible refine Calls.mono HC1.out ?_); rintro e w1 ⟨N, rfl, h1, h2, h⟩; have H1 := Aside0.mk h; clear h h1 h2))
    go_ret
    exact ⟨by rw [HTF.out]; rfl, H1.out⟩
  · skip
    have hT : T = false := by rw [HT.out]; unfold V.number; rw [ha]
    have HTF := Aside0.mk hT
    obtain ⟨tp, p, hp⟩ := HV.out.rng
    have hc1 := Tryd.strconv_Atoi_range_var s (by omega) ha tp p w hp
    have HC1 := Aside0.mk hc1
    clear hT ha hc1 hp
    go_wp2_with (first | (go_at_call 76; (with_reducible refine Calls.mono HC1.out ?_); rintro e w1 ⟨N, rfl, h1, h2, h⟩; have H1 := Aside0.mk h; clear h h1 h2))
    go_ret
    exact ⟨by rw [HTF.out]; rfl, H1.out⟩
theorem one_two (a b : V.Bs) (A B : ByteArray) (hA : str a = A) (hB : str b = B) (la : a.length ≤ 100) (lb : b.length ≤ 100) (val : ByteArray) (hs : val.size ≤ 1000000) (w : World) :
    Calls Tryd.prog 58 #[.string val, .slice (some ⟨w.heap.size, 0, none⟩) 2 2] (w.alloc (.cells #[.string A, .string B] 9)) fun e w' => e = .returned (oRes (V.one (lst val) [a, b])) ∧ Below w.heap.size w w' := by
  subst hA hB
  refine (one_any [a, b] (by simp; omega) (by simp) val hs w.heap.size 2 9 (w.alloc (.cells #[.string (str a), .string (str b)] 9)) (heap_alloc_new _ _)).mono ?_
  rintro e w' ⟨rfl, h⟩
  exact ⟨rfl, ((Below.refl _ w).alloc (Nat.le_refl _) _).trans (h.mono (by simp))⟩
theorem one_three (a b c : V.Bs) (A B C : ByteArray) (hA : str a = A) (hB : str b = B) (hC : str c = C) (la : a.length ≤ 100) (lb : b.length ≤ 100) (lc : c.length ≤ 100) (val : ByteArray) (hs : val.size ≤ 1000000) (w : World) :
    Calls Tryd.prog 58 #[.string val, .slice (some ⟨w.heap.size, 0, none⟩) 3 3] (w.alloc (.cells #[.string A, .string B, .string C] 9)) fun e w' => e = .returned (oRes (V.one (lst val) [a, b, c])) ∧ Below w.heap.size w w' := by
  subst hA hB hC
  refine (one_any [a, b, c] (by simp; omega) (by simp) val hs w.heap.size 3 9 (w.alloc (.cells #[.string (str a), .string (str b), .string (str c)] 9)) (heap_alloc_new _ _)).mono ?_
  rintro e w' ⟨rfl, h⟩
  exact ⟨rfl, ((Below.refl _ w).alloc (Nat.le_refl _) _).trans (h.mono (by simp))⟩
def wSIZE : V.Bs := [83, 73, 90, 69]
def wRET : V.Bs := [82, 69, 84]
def wNOTIFY : V.Bs := [78, 79, 84, 73, 70, 89]
def wFULL : V.Bs := [70, 85, 76, 76]
def wHDRS : V.Bs := [72, 68, 82, 83]
def wNEVER : V.Bs := [78, 69, 86, 69, 82]
def wFAILURE : V.Bs := [70, 65, 73, 76, 85, 82, 69]
/-- A parameter's value as it is kept, and whether it is one. -/
def V.value (k : Int) (key val : V.Bs) : V.Bs × Bool :=
  if k = 2 ∧ key = wSIZE then (val, V.number val)
  else if k = 2 ∧ key = wRET then ((V.one val [wFULL, wHDRS]).getD [], (V.one val [wFULL, wHDRS]).isSome)
  else if k = 3 ∧ key = wNOTIFY then ((V.one val [wNEVER, wFAILURE]).getD [], (V.one val [wNEVER, wFAILURE]).isSome)
  else ([], false)
def pairV (p : V.Bs × Bool) : Value := .tuple #[.string (str p.1), .bool p.2]
theorem eq_const (s : ByteArray) (L : List UInt8) (b : V.Bs) (hb : b = L) : (s.toList == L) = decide (lst s = b) := by
  subst hb
  rw [ByteArray.toList_eq]
  show (lst s == b) = _
  rw [Bool.eq_iff_iff]; simp
set_option maxRecDepth 100000 in
set_option maxHeartbeats 1000000 in
theorem value_any (k : Int) (key val : ByteArray) (w : World) (hs : val.size ≤ 100000) (hv : Vars w) :
    Calls Tryd.prog 59 #[.int .i64 k, .string key, .string val] w fun e w' => e = .returned (pairV (V.value k (lst key) (lst val))) ∧ Below w.heap.size w w' := by
  obtain ⟨T, hT⟩ : ∃ T, T = pairV (V.value k (lst key) (lst val)) := ⟨_, rfl⟩
  rw [← hT]
  have HT := Aside0.mk hT
  have HV := Aside0.mk hv
  clear hT hv
  have e1 := eq_const key [83, 73, 90, 69] wSIZE rfl
  have e2 := eq_const key [82, 69, 84] wRET rfl
  have e3 := eq_const key [78, 79, 84, 73, 70, 89] wNOTIFY rfl
  go_enter Tryd.func59, Tryd.ntmps59
  by_cases h1 : k = 2 ∧ lst key = wSIZE
  · obtain ⟨rfl, hk⟩ := h1
    have t1 : (key.toList == [83, 73, 90, 69]) = true := by rw [e1]; exact decide_eq_true hk
    have hT : T = .tuple #[.string val, .bool (V.number (lst val))] := by rw [HT.out]; unfold V.value; rw [if_pos ⟨rfl, hk⟩]; show Value.tuple #[.string (str (lst val)), _] = _; rw [str_lst]
    have HTF := Aside0.mk hT
    clear hT hk e1 e2 e3
    go_wp2_with (first | (go_at_call 73; (with_reducible refine Calls.mono (number_any val _ hs HV.out) ?_); rintro e w1 ⟨rfl, h⟩; have H1 := Aside0.mk h; clear h))
    go_ret2
    exact ⟨by rw [HTF.out]; rfl, H1.out⟩
  · by_cases h2 : k = 2 ∧ lst key = wRET
    · have hT : T = oRes (V.one (lst val) [wFULL, wHDRS]) := by rw [HT.out]; unfold V.value; rw [if_neg h1, if_pos h2]; rfl
      obtain ⟨rfl, hk⟩ := h2
      have t1 : (key.toList == [83, 73, 90, 69]) = false := by rw [e1, hk]; rfl
      have t2 : (key.toList == [82, 69, 84]) = true := by rw [e2]; exact decide_eq_true hk
      have HTF := Aside0.mk hT
      have HCO := Aside0.mk (one_two wFULL wHDRS ⟨#[70, 85, 76, 76]⟩ ⟨#[72, 68, 82, 83]⟩ rfl rfl (by decide) (by decide) val (by omega))
      clear hT hk e1 e2 e3 h1
      go_wp2_with (first | (go_at_call 58; (with_reducible refine Calls.mono (HCO.out _) ?_); rintro e w1 ⟨rfl, h⟩; have H1 := Aside0.mk h; clear h; unfold oRes at HTF ⊢))
      go_ret2
      exact ⟨by rw [HTF.out]; rfl, H1.out⟩
    · by_cases h3 : k = 3 ∧ lst key = wNOTIFY
      · have hT : T = oRes (V.one (lst val) [wNEVER, wFAILURE]) := by rw [HT.out]; unfold V.value; rw [if_neg h1, if_neg h2, if_pos h3]; rfl
        obtain ⟨rfl, hk⟩ := h3
        have t1 : (key.toList == [78, 79, 84, 73, 70, 89]) = true := by rw [e3]; exact decide_eq_true hk
        have HTF := Aside0.mk hT
        have HCO := Aside0.mk (one_two wNEVER wFAILURE ⟨#[78, 69, 86, 69, 82]⟩ ⟨#[70, 65, 73, 76, 85, 82, 69]⟩ rfl rfl (by decide) (by decide) val (by omega))
        clear hT hk e1 e2 e3 h1 h2
        go_wp2_with (first | (go_at_call 58; (with_reducible refine Calls.mono (HCO.out _) ?_); rintro e w1 ⟨rfl, h⟩; have H1 := Aside0.mk h; clear h; unfold oRes at HTF ⊢))
        go_ret2
        exact ⟨by rw [HTF.out]; rfl, H1.out⟩
      · have hT : T = .tuple #[.string ByteArray.empty, .bool false] := by rw [HT.out]; unfold V.value; rw [if_neg h1, if_neg h2, if_neg h3]; rfl
        have HTF := Aside0.mk hT
        clear hT
        by_cases k2 : k = 2
        · subst k2
          have t1 : (key.toList == [83, 73, 90, 69]) = false := by rw [e1]; exact decide_eq_false (fun h => h1 ⟨rfl, h⟩)
          have t2 : (key.toList == [82, 69, 84]) = false := by rw [e2]; exact decide_eq_false (fun h => h2 ⟨rfl, h⟩)
          clear h1 h2 h3 e1 e2 e3
          go_wp2_with (fail)
          go_ret2
          exact ⟨by rw [HTF.out]; rfl, Below.refl _ _⟩
        · by_cases k3 : k = 3
          · subst k3
            have t1 : (key.toList == [78, 79, 84, 73, 70, 89]) = false := by rw [e3]; exact decide_eq_false (fun h => h3 ⟨rfl, h⟩)
            clear h1 h2 h3 e1 e2 e3
            go_wp2_with (fail)
            go_ret2
            exact ⟨by rw [HTF.out]; rfl, Below.refl _ _⟩
          · have t1 : decide (k = 2) = false := decide_eq_false k2
            have t2 : decide (k = 3) = false := decide_eq_false k3
            have t3 : (k == 2) = false := by simp [k2]
            have t4 : (k == 3) = false := by simp [k3]
            clear h1 h2 h3 e1 e2 e3
            go_wp2_with (fail)
            go_ret2
            exact ⟨by rw [HTF.out]; rfl, Below.refl _ _⟩
end Go.Proofs.YteiknmcmaemcoaaDoor
