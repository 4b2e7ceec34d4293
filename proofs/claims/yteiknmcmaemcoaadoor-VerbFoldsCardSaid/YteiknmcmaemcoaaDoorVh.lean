/- What verb's after, named and strange answer. -/
import Derived.Test.YteiknmcmaemcoaaDoorProg
import Derived.WalkKit
import Derived.WalkLawsBesides
import Derived.Outline
import Derived.LoopTactic
import Derived.Lib.Hide
import Derived.Deep.QuietTactic
import Derived.BigQuiet
import Derived.Deep.LoopGhost
import Derived.Deep.DeepCutAuto
import Derived.Deep.CutBlock
import Derived.Deep.RegionHeld3
import Derived.Deep.RegionWith
import Derived.Deep.WholeRow
import Derived.Laws.Rows
import Derived.Laws.Tables
import Derived.Laws.ResultCell
import Derived.StillTailTactics
import Derived.Deep.DeepMust
import Derived.IntWalk
import Derived.KernelRfl
import Derived.Test.YteiknmcmaemcoaaDoorWWords
import Derived.Test.YteiknmcmaemcoaaDoorWLast
import Derived.Test.YteiknmcmaemcoaaDoorWMore
import Derived.RegionTactic
import Derived.Test.YteiknmcmaemcoaaDoorVg
namespace Go.Proofs.YteiknmcmaemcoaaDoor
open Go.RowKit Go.Lib
open Go.Proofs.YteiknmcmaemcoaaDoorW.PrintWords
set_option linter.unusedVariables false
set_option linter.unusedSimpArgs false
/-- What stands behind a beginning, folded. -/
def V.after (l b : V.Bs) : Option V.Bs := if b.length ≤ l.length ∧ V.fold (l.take b.length) = V.fold b then some (l.drop b.length) else none
theorem slice_to (s : ByteArray) (n : Nat) (h : n ≤ s.size) (X : ByteArray) (hX : X = str ((lst s).take n)) (w : World) : (Instr.slice 9 (.string s) none (some (.int .i64 (n : Int))) none).run Tryd.prog w = .ok (.string X) w := by
  rw [run_slice_string_to_if w 9 s .i64 (n : Int) Tryd.underlying9, if_pos (by omega)]
  subst hX
  have e : s.extract 0 (n : Int).toNat = str ((lst s).take n) := by
    rw [← str_lst (s.extract 0 (n : Int).toNat)]
    congr 1
    simp [lst, ByteArray.data_extract]
  rw [e]
theorem slice_from (s : ByteArray) (n : Nat) (h : n ≤ s.size) (X : ByteArray) (hX : X = str ((lst s).drop n)) (w : World) : (Instr.slice 9 (.string s) (some (.int .i64 (n : Int))) none none).run Tryd.prog w = .ok (.string X) w := by
  rw [run_slice_string_from_if w 9 s .i64 (n : Int) Tryd.underlying9, if_pos (by omega)]
  subst hX
  have e : s.extract (n : Int).toNat s.size = str ((lst s).drop n) := by
    rw [← str_lst (s.extract (n : Int).toNat s.size)]
    congr 1
    have hl := lst_length s
    unfold lst at hl
    simp [lst, ByteArray.data_extract]
    rw [List.take_of_length_le]
    simp
  rw [e]
set_option maxRecDepth 100000 in
set_option maxHeartbeats 1000000 in
theorem after_any (s D : ByteArray) (w : World) (hs : s.size ≤ 1000000) (hD : D.size ≤ 1000000) :
    Calls Tryd.prog 35 #[.string s, .string D] w fun e w' => e = .returned (oRes (V.after (lst s) (lst D))) ∧ Below w.heap.size w w' := by
  obtain ⟨T, hT⟩ : ∃ T, T = oRes (V.after (lst s) (lst D)) := ⟨_, rfl⟩
  rw [← hT]
  have HT := Aside0.mk hT
  clear hT
  go_enter Tryd.func35, Tryd.ntmps35
  by_cases hle : D.size ≤ s.size
  · obtain ⟨X, hX⟩ : ∃ X, X = str ((lst s).take D.size) := ⟨_, rfl⟩
    obtain ⟨Y, hY⟩ : ∃ Y, Y = str ((lst s).drop D.size) := ⟨_, rfl⟩
    have h1 := slice_to s D.size hle X hX
    have h2 := slice_from s D.size hle Y hY
    have hXs : X.size ≤ 1000000 := by rw [hX, str_size]; simp; omega
    have t1 : decide ((s.size : Int) < (D.size : Int)) = false := by simp; omega
    have t2 : decide (s.size < D.size) = false := by simp; omega
    by_cases hf : V.fold ((lst s).take D.size) = V.fold (lst D)
    · have hT : T = .tuple #[.string Y, .bool true] := by rw [HT.out]; unfold V.after; rw [lst_length, lst_length, if_pos ⟨hle, hf⟩, hY]; rfl
      have HTF := Aside0.mk hT
      have t3 : ((foldB X).toList == (foldB D).toList) = true := by
        rw [str_eqB]; unfold foldB; rw [lst_str, lst_str, hX, lst_str]; exact decide_eq_true hf
      clear hT hf hX hY
      go_wp2_with (first | (go_at_call 17; (with_reducible refine Calls.mono (fold_any X _ hXs) ?_); rintro e w1 ⟨rfl, h⟩; have H1 := Aside0.mk h; clear h) | (go_at_call 17; (with_reducible refine Calls.mono (fold_any D _ hD) ?_); rintro e w2 ⟨rfl, h⟩; have H2 := Aside0.mk h; clear h))
      go_ret2
      exact ⟨by rw [HTF.out]; rfl, H1.out.trans (H2.out.mono H1.out.size)⟩
    · have hT : T = .tuple #[.string ByteArray.empty, .bool false] := by rw [HT.out]; unfold V.after; rw [lst_length, lst_length, if_neg (fun h => hf h.2)]; rfl
      have HTF := Aside0.mk hT
      have t3 : ((foldB X).toList == (foldB D).toList) = false := by
        rw [str_eqB]; unfold foldB; rw [lst_str, lst_str, hX, lst_str]; exact decide_eq_false hf
      clear hT hf hX hY
      go_wp2_with (first | (go_at_call 17; (with_reducible refine Calls.mono (fold_any X _ hXs) ?_); rintro e w1 ⟨rfl, h⟩; have H1 := Aside0.mk h; clear h) | (go_at_call 17; (with_reducible refine Calls.mono (fold_any D _ hD) ?_); rintro e w2 ⟨rfl, h⟩; have H2 := Aside0.mk h; clear h))
      go_ret2
      exact ⟨by rw [HTF.out]; rfl, H1.out.trans (H2.out.mono H1.out.size)⟩
  · have hT : T = .tuple #[.string ByteArray.empty, .bool false] := by rw [HT.out]; unfold V.after; rw [lst_length, lst_length, if_neg (fun h => hle h.1)]; rfl
    have HTF := Aside0.mk hT
    have t1 : decide ((s.size : Int) < (D.size : Int)) = true := by simp; omega
    have t2 : decide (s.size < D.size) = true := by simp; omega
    clear hT hle
    go_wp2_with (fail)
    go_ret2
    exact ⟨by rw [HTF.out]; rfl, Below.refl _ _⟩
end Go.Proofs.YteiknmcmaemcoaaDoor
