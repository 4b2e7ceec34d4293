/- What path's Domain, Check and Text answer. -/
import Derived.Test.YteiknmcmaemcoaaDoorProg
import Derived.WalkKit
import Derived.WalkLawsBesides
import Derived.Outline
import Derived.LoopTactic
import Derived.Lib.Hide
import Derived.Deep.QuietTactic
import Derived.BigQuiet
import Derived.Deep.LoopGhost
import Derived.Deep.DeepCutAuto
import Derived.Deep.CutBlock
import Derived.Deep.RegionHeld3
import Derived.Deep.RegionWith
import Derived.Deep.WholeRow
import Derived.Laws.Rows
import Derived.Laws.Tables
import Derived.Laws.ResultCell
import Derived.StillTailTactics
import Derived.Deep.DeepMust
import Derived.IntWalk
import Derived.KernelRfl
import Derived.Test.YteiknmcmaemcoaaDoorWWords
import Derived.Test.YteiknmcmaemcoaaDoorWLast
import Derived.Test.YteiknmcmaemcoaaDoorWMore
import Derived.RegionTactic
import Derived.Test.YteiknmcmaemcoaaDoorVd
namespace Go.Proofs.YteiknmcmaemcoaaDoor
open Go.RowKit Go.Lib
open Go.Proofs.YteiknmcmaemcoaaDoorW.PrintWords
set_option linter.unusedVariables false
set_option linter.unusedSimpArgs false
theorem domain_any (s : ByteArray) (w : World) (hs : s.size ≤ 1000000) (hv : Vars w) :
    Calls Tryd.prog 43 #[.string s] w fun e w' => e = .returned (.bool (V.domain (lst s))) ∧ Below w.heap.size w w' := by
  have HV := Aside0.mk hv
  clear hv
  go_enter Tryd.func43, Tryd.ntmps43
  go_wp2_with (first | (go_at_call 46; with_reducible refine Calls.mono (parts_label s 255 (by decide) (by decide) _ hs HV.out) ?_; rintro e w1 ⟨rfl, h⟩; have H := Aside0.mk h; clear h))
  go_ret
  exact ⟨rfl, H.out⟩
theorem cat_run (a b c : ByteArray) (hc : c = a ++ b) (ha : a.size ≤ 1000000) (hb : b.size ≤ 1000000) (w : World) : (Op.stringOp .add a b).run Tryd.prog w = .ok (.string c) w := by
  rw [hc]; exact run_string_add_sum w a b (by omega)
theorem lst_append (a b : ByteArray) : lst (a ++ b) = lst a ++ lst b := by simp [lst, ByteArray.data_append]
theorem str_append (a b : V.Bs) : str (a ++ b) = str a ++ str b := by rw [← str_lst (str a ++ str b), lst_append, lst_str, lst_str]
theorem lst_nil (s : ByteArray) : (lst s).isEmpty = decide (s.size = 0) := by
  rw [← lst_length]
  cases lst s <;> simp
def pv (n : Bool) (a b : ByteArray) : Value := .agg #[.bool n, .string a, .string b]
def errOf (b : Bool) : Int := if b then 0 else 5
set_option maxRecDepth 100000 in
set_option maxHeartbeats 1000000 in
theorem check_any (n : Bool) (a b : ByteArray) (w : World) (ha : a.size ≤ 100000) (hb : b.size ≤ 100000) (hv : Vars w) :
    Calls Tryd.prog 38 #[.agg #[.bool n, .string a, .string b]] w fun e w' => e = .returned (.int .i64 (errOf (V.check ⟨n, lst a, lst b⟩))) ∧ Below w.heap.size w w' := by
  obtain ⟨T, hT⟩ : ∃ T, T = V.check ⟨n, lst a, lst b⟩ := ⟨_, rfl⟩
  rw [← hT]
  have HT := Aside0.mk hT
  clear hT
  obtain ⟨C, hC⟩ : ∃ C, C = a ++ b := ⟨_, rfl⟩
  have hcat := cat_run a b C hC (by omega) (by omega)
  have hce : C.toList.isEmpty = ((lst a).isEmpty && (lst b).isEmpty) := by
    rw [emp_str, hC, lst_append]
    cases lst a <;> simp
  clear hC
  have HV := Aside0.mk hv
  clear hv
  go_enter Tryd.func38, Tryd.ntmps38
  cases n with
  | true =>
    have hT : T = ((lst a).isEmpty && (lst b).isEmpty) := by rw [HT.out]; simp [V.check]
    rw [← hT] at hce
    have HTF := Aside0.mk hT
    clear hT
    cases T with
    | true =>
      go_wp2_with (fail)
      go_ret
      exact ⟨rfl, (Below.refl _ _).alloc (Nat.le_refl _) _⟩
    | false =>
      go_wp2_with (fail)
      go_ret
      exact ⟨rfl, (Below.refl _ _).alloc (Nat.le_refl _) _⟩
  | false =>
    have hT : T = (V.parts (lst a) (64 : Int).toNat V.atom && V.domain (lst b)) := by rw [HT.out]; simp [V.check, V.localOk]
    clear hce
    have HVA := Aside0.mk (HV.out.go ((Below.refl _ w).alloc (Nat.le_refl _) (.cells #[.bool false, .string a, .string b] 23)))
    cases h1 : V.parts (lst a) (64 : Int).toNat V.atom with
    | false =>
      have hT2 : T = false := by rw [hT, h1]; rfl
      have HTF := Aside0.mk hT2
      have H1 := Aside0.mk h1
      clear hT hT2
      go_wp2_with (first | (go_at_call 46; with_reducible refine Calls.mono (parts_atom a 64 (by decide) (by decide) _ (by omega) HVA.out) ?_; rintro e w1 ⟨rfl, h⟩; have H := Aside0.mk h; clear h; rw [H1.out]))
      go_ret
      exact ⟨by rw [HTF.out]; rfl, ((Below.refl _ w).alloc (Nat.le_refl _) _).trans (H.out.mono (by simp))⟩
    | true =>
      have hT2 : T = V.domain (lst b) := by rw [hT, h1]; rfl
      have H1 := Aside0.mk h1
      clear hT
      cases h2 : V.domain (lst b) with
      | false =>
        have HTF := Aside0.mk (hT2.trans h2)
        have H2 := Aside0.mk h2
        clear hT2
        go_wp2_with (first | (go_at_call 46; with_reducible refine Calls.mono (parts_atom a 64 (by decide) (by decide) _ (by omega) HVA.out) ?_; rintro e w1 ⟨rfl, h⟩; have H := Aside0.mk h; have hc2 : w1.cell? ⟨w.heap.size, 2, none⟩ = some (.string b) := (h.cell (p := ⟨w.heap.size, 2, none⟩) (by simp)).trans (by simp); clear h; rw [H1.out]) | (go_at_call 43; with_reducible refine Calls.mono (domain_any b _ (by omega) (HVA.out.go H.out)) ?_; rintro e w2 ⟨rfl, h⟩; have H3 := Aside0.mk h; clear h; rw [H2.out]))
        go_ret
        exact ⟨by rw [HTF.out]; rfl, (((Below.refl _ w).alloc (Nat.le_refl _) _).trans (H.out.mono (by simp))).trans (H3.out.mono (Nat.le_trans (by simp) H.out.size))⟩
      | true =>
        have HTF := Aside0.mk (hT2.trans h2)
        have H2 := Aside0.mk h2
        clear hT2
        go_wp2_with (first | (go_at_call 46; with_reducible refine Calls.mono (parts_atom a 64 (by decide) (by decide) _ (by omega) HVA.out) ?_; rintro e w1 ⟨rfl, h⟩; have H := Aside0.mk h; have hc2 : w1.cell? ⟨w.heap.size, 2, none⟩ = some (.string b) := (h.cell (p := ⟨w.heap.size, 2, none⟩) (by simp)).trans (by simp); clear h; rw [H1.out]) | (go_at_call 43; with_reducible refine Calls.mono (domain_any b _ (by omega) (HVA.out.go H.out)) ?_; rintro e w2 ⟨rfl, h⟩; have H3 := Aside0.mk h; clear h; rw [H2.out]))
        go_ret
        exact ⟨by rw [HTF.out]; rfl, (((Below.refl _ w).alloc (Nat.le_refl _) _).trans (H.out.mono (by simp))).trans (H3.out.mono (Nat.le_trans (by simp) H.out.size))⟩
def textB (n : Bool) (a b : ByteArray) : ByteArray := match V.ptext ⟨n, lst a, lst b⟩ with | some l => str l | none => ByteArray.empty
set_option maxRecDepth 100000 in
set_option maxHeartbeats 1000000 in
theorem ptext_any (n : Bool) (a b : ByteArray) (w : World) (ha : a.size ≤ 100000) (hb : b.size ≤ 100000) (hv : Vars w) :
    Calls Tryd.prog 27 #[.agg #[.bool n, .string a, .string b]] w fun e w' => e = .returned (.tuple #[.string (textB n a b), .int .i64 (errOf (V.check ⟨n, lst a, lst b⟩))]) ∧ Below w.heap.size w w' := by
  obtain ⟨T, hT⟩ : ∃ T, T = V.check ⟨n, lst a, lst b⟩ := ⟨_, rfl⟩
  obtain ⟨X, hX⟩ : ∃ X, X = textB n a b := ⟨_, rfl⟩
  rw [← hT, ← hX]
  unfold textB V.ptext at hX
  rw [← hT] at hX
  have HT := Aside0.mk hT
  clear hT
  have HVA := Aside0.mk (hv.go ((Below.refl _ w).alloc (Nat.le_refl _) (.cells #[.bool n, .string a, .string b] 23)))
  clear hv
  obtain ⟨C1, hC1⟩ : ∃ C, C = (⟨#[60]⟩ : ByteArray) ++ a := ⟨_, rfl⟩
  obtain ⟨C2, hC2⟩ : ∃ C, C = C1 ++ (⟨#[64]⟩ : ByteArray) := ⟨_, rfl⟩
  obtain ⟨C3, hC3⟩ : ∃ C, C = C2 ++ b := ⟨_, rfl⟩
  obtain ⟨C4, hC4⟩ : ∃ C, C = C3 ++ (⟨#[62]⟩ : ByteArray) := ⟨_, rfl⟩
  have s1 : C1.size = 1 + a.size := by rw [hC1, ByteArray.size_append]; rfl
  have s2 : C2.size = C1.size + 1 := by rw [hC2, ByteArray.size_append]; rfl
  have s3 : C3.size = C2.size + b.size := by rw [hC3, ByteArray.size_append]
  have hcat1 := cat_run _ _ C1 hC1 (by decide) (by omega)
  have hcat2 := cat_run _ _ C2 hC2 (by omega) (by decide)
  have hcat3 := cat_run _ _ C3 hC3 (by omega) (by omega)
  have hcat4 := cat_run _ _ C4 hC4 (by omega) (by decide)
  have hC : C4 = str (60 :: lst a ++ 64 :: lst b ++ [62]) := by
    rw [← str_lst C4, hC4, hC3, hC2, hC1]
    simp only [lst_append]
    congr 1
    simp [lst]
  have HCC := Aside0.mk hC
  clear hC1 hC2 hC3 hC4 s1 s2 s3 hC
  go_enter Tryd.func27, Tryd.ntmps27
  cases T with
  | false =>
    simp only [Bool.false_eq_true, if_false] at hX
    have HX := Aside0.mk hX
    clear hX
    go_wp2_with (first | (go_at_call 38; with_reducible refine Calls.mono (check_any n a b _ ha hb HVA.out) ?_; rintro e w1 ⟨rfl, h⟩; have H := Aside0.mk h; clear h; rw [← HT.out]; simp only [errOf, Bool.false_eq_true, if_false]))
    go_ret2
    exact ⟨by rw [HX.out]; rfl, ((Below.refl _ w).alloc (Nat.le_refl _) _).trans (H.out.mono (by simp))⟩
  | true =>
    simp only [if_true] at hX
    cases n with
    | true =>
      simp only [if_true] at hX
      have HX := Aside0.mk hX
      clear hX
      go_wp2_with (first | (go_at_call 38; with_reducible refine Calls.mono (check_any true a b _ ha hb HVA.out) ?_; rintro e w1 ⟨rfl, h⟩; have H := Aside0.mk h; have hc0 : w1.cell? ⟨w.heap.size, 0, none⟩ = some (.bool true) := (h.cell (p := ⟨w.heap.size, 0, none⟩) (by simp)).trans (by simp); clear h; rw [← HT.out]; simp only [errOf, if_true]))
      go_ret2
      exact ⟨by rw [HX.out]; rfl, ((Below.refl _ w).alloc (Nat.le_refl _) _).trans (H.out.mono (by simp))⟩
    | false =>
      simp only [Bool.false_eq_true, if_false] at hX
      have HX := Aside0.mk hX
      clear hX
      go_wp2_with (first | (go_at_call 38; with_reducible refine Calls.mono (check_any false a b _ ha hb HVA.out) ?_; rintro e w1 ⟨rfl, h⟩; have H := Aside0.mk h; have hc0 : w1.cell? ⟨w.heap.size, 0, none⟩ = some (.bool false) := (h.cell (p := ⟨w.heap.size, 0, none⟩) (by simp)).trans (by simp); have hc1 : w1.cell? ⟨w.heap.size, 1, none⟩ = some (.string a) := (h.cell (p := ⟨w.heap.size, 1, none⟩) (by simp)).trans (by simp); have hc2 : w1.cell? ⟨w.heap.size, 2, none⟩ = some (.string b) := (h.cell (p := ⟨w.heap.size, 2, none⟩) (by simp)).trans (by simp); clear h; rw [← HT.out]; simp only [errOf, if_true]))
      go_ret2
      exact ⟨by rw [HX.out, ← HCC.out]; rfl, ((Below.refl _ w).alloc (Nat.le_refl _) _).trans (H.out.mono (by simp))⟩
end Go.Proofs.YteiknmcmaemcoaaDoor
