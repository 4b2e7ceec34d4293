/- What verb's named and strange answer. -/
import Derived.Test.YteiknmcmaemcoaaDoorProg
import Derived.WalkKit
import Derived.WalkLawsBesides
import Derived.Outline
import Derived.LoopTactic
import Derived.Lib.Hide
import Derived.Deep.QuietTactic
import Derived.BigQuiet
import Derived.Deep.LoopGhost
import Derived.Deep.DeepCutAuto
import Derived.Deep.CutBlock
import Derived.Deep.RegionHeld3
import Derived.Deep.RegionWith
import Derived.Deep.WholeRow
import Derived.Laws.Rows
import Derived.Laws.Tables
import Derived.Laws.ResultCell
import Derived.StillTailTactics
import Derived.Deep.DeepMust
import Derived.IntWalk
import Derived.KernelRfl
import Derived.Test.YteiknmcmaemcoaaDoorWWords
import Derived.Test.YteiknmcmaemcoaaDoorWLast
import Derived.Test.YteiknmcmaemcoaaDoorWMore
import Derived.RegionTactic
import Derived.Test.YteiknmcmaemcoaaDoorVh
namespace Go.Proofs.YteiknmcmaemcoaaDoor
open Go.RowKit Go.Lib
open Go.Proofs.YteiknmcmaemcoaaDoorW.PrintWords
set_option linter.unusedVariables false
set_option linter.unusedSimpArgs false
/-- A command's cells. -/
def cv (k : Int) (t : ByteArray) (n : Bool) (l d : ByteArray) (sl : Value) : Array Value := #[.int .i64 k, .string t, .bool n, .string l, .string d, sl]
def noSl : Value := .slice none 0 0
theorem row6 {w : World} {g t : Nat} {fr : Nat × Nat} {x0 x1 x2 x3 x4 x5 a0 a1 a2 a3 a4 a5 : Value} (h : w.heap[g]? = some (.cells #[x0, x1, x2, x3, x4, x5] t fr)) :
    ((((((w.setCell ⟨g, 0, none⟩ a0).setCell ⟨g, 1, none⟩ a1).setCell ⟨g, 2, none⟩ a2).setCell ⟨g, 3, none⟩ a3).setCell ⟨g, 4, none⟩ a4).setCell ⟨g, 5, none⟩ a5).heap[g]? = some (.cells #[a0, a1, a2, a3, a4, a5] t fr) :=
  setCell_row _ g 5 _ _ _ a5 (setCell_row _ g 4 _ _ _ a4 (setCell_row _ g 3 _ _ _ a3 (setCell_row _ g 2 _ _ _ a2 (setCell_row _ g 1 _ _ _ a1 (setCell_row _ g 0 _ _ _ a0 h)))))
theorem below6 {w0 w : World} {B g : Nat} {a0 a1 a2 a3 a4 a5 : Value} (h : Below B w0 w) (hg : B ≤ g) :
    Below B w0 ((((((w.setCell ⟨g, 0, none⟩ a0).setCell ⟨g, 1, none⟩ a1).setCell ⟨g, 2, none⟩ a2).setCell ⟨g, 3, none⟩ a3).setCell ⟨g, 4, none⟩ a4).setCell ⟨g, 5, none⟩ a5) :=
  (((((h.setCell hg _).setCell hg _).setCell hg _).setCell hg _).setCell hg _).setCell hg _
theorem cells6 {w : World} {g t : Nat} {x0 x1 x2 x3 x4 x5 : Value} (h : w.heap[g]? = some (.cells #[x0, x1, x2, x3, x4, x5] t (0, 0))) :
    (w.cell? ⟨g, 0, none⟩ = some x0 ∧ w.cell? ⟨g, 1, none⟩ = some x1 ∧ w.cell? ⟨g, 2, none⟩ = some x2 ∧ w.cell? ⟨g, 3, none⟩ = some x3 ∧ w.cell? ⟨g, 4, none⟩ = some x4 ∧ w.cell? ⟨g, 5, none⟩ = some x5) ∧
    (w.frozen? ⟨g, 0, none⟩ = false ∧ w.frozen? ⟨g, 1, none⟩ = false ∧ w.frozen? ⟨g, 2, none⟩ = false ∧ w.frozen? ⟨g, 3, none⟩ = false ∧ w.frozen? ⟨g, 4, none⟩ = false ∧ w.frozen? ⟨g, 5, none⟩ = false) := by
  refine ⟨⟨?_, ?_, ?_, ?_, ?_, ?_⟩, unfroz h _, unfroz h _, unfroz h _, unfroz h _, unfroz h _, unfroz h _⟩ <;> (rw [cell_of_row w g _ _ _ _ h]; rfl)
def named (k : Int) (s : ByteArray) (ok : Bool) : Value := .tuple #[.agg (if ok then cv k s false ByteArray.empty ByteArray.empty noSl else cv 0 ByteArray.empty false ByteArray.empty ByteArray.empty noSl), .bool ok]
set_option maxRecDepth 100000 in
set_option maxHeartbeats 1000000 in
theorem named_any (k : Int) (s : ByteArray) (w : World) (hs : s.size ≤ 100000) (hv : Vars w) :
    Calls Tryd.prog 33 #[.int .i64 k, .string s] w fun e w' => e = .returned (named k s (V.domain (lst s))) ∧ Below w.heap.size w w' := by
  obtain ⟨T, hT⟩ : ∃ T, T = named k s (V.domain (lst s)) := ⟨_, rfl⟩
  rw [← hT]
  have HT := Aside0.mk hT
  have HV := Aside0.mk (hv.go ((Below.refl _ w).alloc (Nat.le_refl _) (.cells #[.int .i64 0, .string { data := #[] }, .bool false, .string { data := #[] }, .string { data := #[] }, .slice none 0 0] 26)))
  have hkeep : ∀ w', Below (w.alloc (.cells #[.int .i64 0, .string { data := #[] }, .bool false, .string { data := #[] }, .string { data := #[] }, .slice none 0 0] 26)).heap.size (w.alloc (.cells #[.int .i64 0, .string { data := #[] }, .bool false, .string { data := #[] }, .string { data := #[] }, .slice none 0 0] 26)) w' →
      w'.heap[w.heap.size]? = some (.cells #[.int .i64 0, .string { data := #[] }, .bool false, .string { data := #[] }, .string { data := #[] }, .slice none 0 0] 26 (0, 0)) := fun w' h => (h.block w.heap.size (by simp)).trans (heap_alloc_new _ _)
  have HK := Aside0.mk hkeep
  clear hT hv hkeep
  go_enter Tryd.func33, Tryd.ntmps33
  cases hd : V.domain (lst s) with
  | true =>
    have HD := Aside0.mk hd
    go_wp2_with (first | (go_at_call 43; (with_reducible refine Calls.mono (domain_any s _ (by omega) HV.out) ?_); rintro e w1 ⟨rfl, h⟩; have H1 := Aside0.mk h; have R := Aside0.mk (HK.out _ h); clear h; obtain ⟨⟨c0, c1, c2, c3, c4, c5⟩, f0, f1, f2, f3, f4, f5⟩ := cells6 R.out; rw [HD.out]))
    refine bodyPost_ret (v := T) ?_ rfl ⟨rfl, ?_⟩
    · rw [HT.out, HD.out]
      exact results_ct (by rfl) _ _ w.heap.size 26 _ (0, 0) _ rfl (row6 R.out) Tryd.underlying26 rfl (by kernel_rfl) _ rfl
    · exact below6 (((Below.refl _ w).alloc (Nat.le_refl _) _).trans (H1.out.mono (by simp))) (Nat.le_refl _)
  | false =>
    have HD := Aside0.mk hd
    go_wp2_with (first | (go_at_call 43; (with_reducible refine Calls.mono (domain_any s _ (by omega) HV.out) ?_); rintro e w1 ⟨rfl, h⟩; have H1 := Aside0.mk h; have R := Aside0.mk (HK.out _ h); clear h; obtain ⟨⟨c0, c1, c2, c3, c4, c5⟩, f0, f1, f2, f3, f4, f5⟩ := cells6 R.out; rw [HD.out]))
    refine bodyPost_ret (v := T) ?_ rfl ⟨rfl, ?_⟩
    · rw [HT.out, HD.out]
      exact results_ct (by rfl) _ _ w.heap.size 26 _ (0, 0) _ rfl (row6 R.out) Tryd.underlying26 rfl (by kernel_rfl) _ rfl
    · exact below6 (((Below.refl _ w).alloc (Nat.le_refl _) _).trans (H1.out.mono (by simp))) (Nat.le_refl _)
def authB : V.Bs := [97, 117, 116, 104, 32]
/-- Another way to prove who one is? -/
def V.strange (l : V.Bs) : Bool := match V.after l authB with
  | none => false
  | some r => r.all goodL && !r.isEmpty
theorem goodL_int (c : UInt8) (x : Int) (hx : x = (c.toNat : Int)) : goodL c = (decide (97 ≤ x ∧ x ≤ 122) || decide (65 ≤ x ∧ x ≤ 90) || decide (48 ≤ x ∧ x ≤ 57) || decide (x = 45)) := by
  unfold goodL
  rw [byte_45 c x hx]
  congr 1
  subst hx
  unfold V.isPlain
  simp only [UInt8.le_iff_toNat_le]
  congr 1
  · congr 1
    · apply decide_eq_decide.2
      constructor <;> (simp; omega)
    · apply decide_eq_decide.2
      constructor <;> (simp; omega)
  · apply decide_eq_decide.2
    constructor <;> (simp; omega)
set_option maxRecDepth 100000 in
set_option maxHeartbeats 1000000 in
theorem strange_any (s : ByteArray) (w : World) (hs : s.size ≤ 100000) :
    Calls Tryd.prog 21 #[.string s] w fun e w' => e = .returned (.bool (V.strange (lst s))) ∧ Below w.heap.size w w' := by
  obtain ⟨T, hT⟩ : ∃ T, T = V.strange (lst s) := ⟨_, rfl⟩
  rw [← hT]
  have HT := Aside0.mk hT
  clear hT
  obtain ⟨D, hD⟩ : ∃ D, D = str authB := ⟨_, rfl⟩
  have hdd : ({ data := #[97, 117, 116, 104, 32] } : ByteArray) = D := hD.symm
  obtain ⟨r, hr⟩ : ∃ r, r = str ((V.after (lst s) authB).getD []) := ⟨_, rfl⟩
  obtain ⟨b, hb⟩ : ∃ b, b = (V.after (lst s) authB).isSome := ⟨_, rfl⟩
  have hrl : r.size ≤ 100000 := by
    rw [hr, str_size]
    cases ha : V.after (lst s) authB with
    | none => simp
    | some x =>
      unfold V.after at ha
      split at ha
      · cases ha; simp [lst_length]; omega
      · cases ha
  have hcon : ∀ w, Calls Tryd.prog 35 #[.string s, .string D] w fun e w' => e = .returned (.tuple #[.string r, .bool b]) ∧ Below w.heap.size w w' := by
    intro w
    have h := after_any s D w (by omega) (by rw [hD]; decide)
    rw [show lst D = authB by rw [hD, lst_str]] at h
    unfold oRes at h
    rw [← hr, ← hb] at h
    exact h
  have hT : T = ((lst r).all goodL && (b && !(lst r).isEmpty)) := by
    rw [HT.out]; unfold V.strange
    rw [hr, hb, lst_str]
    cases V.after (lst s) authB <;> simp
  have HTF := Aside0.mk hT
  have HC := Aside0.mk hcon
  clear hT hcon hr hb hD
  go_enter Tryd.func21, Tryd.ntmps21
  go_upto_region 1 with (fail)
  rw [hdd]
  clear hdd
  go_wp2_with (first | (go_at_call 35; (with_reducible refine Calls.mono (HC.out _) ?_); rintro e w1 ⟨rfl, h⟩; have H1 := Aside0.mk h; clear h))
  go_loopg [14] r.size (fun g v14 wr => ∃ n : Nat, n ≤ r.size ∧ g + n = r.size ∧ v14 = .int .i64 n ∧ wr = w1 ∧ Aside0 (((lst r).take n).all goodL = true))
  case atStart => exact ⟨0, by omega, by omega, rfl, rfl, ⟨by simp⟩⟩
  case round =>
    obtain ⟨n, hn, hg, rfl, rfl, H⟩ := hrel
    by_cases hlt : n < r.size
    · obtain ⟨c, hc⟩ : ∃ c, c = (lst r).getD n 0 := ⟨_, rfl⟩
      obtain ⟨x, hx⟩ : ∃ x : Int, x = (c.toNat : Int) := ⟨_, rfl⟩
      have hix := fun w => index_str r n hlt c hc x hx w
      have hstep := all_take (lst r) goodL n (by rw [lst_length]; exact hlt) c hc
      have hbad := all_false (lst r) goodL n (by rw [lst_length]; exact hlt) c hc
      have hlt' : (n : Int) < (r.size : Int) := by omega
      have h0 : (0 : Int) ≤ (n : Int) := by omega
      have HX := Aside0.mk hx
      have HS := Aside0.mk hstep
      have HB := Aside0.mk hbad
      have HG := Aside0.mk (goodL_int c x hx)
      clear hx hc hstep hbad
      go_wp2_with (fail)
      all_goals try simp only [Bool.not_eq_eq_eq_not, Bool.not_true, Bool.not_false, decide_eq_false_iff_not, decide_eq_true_eq, beq_iff_eq, beq_eq_false_iff_ne, ne_eq] at *
      all_goals first
        | (have hgt : goodL c = true := by rw [HG.out]; simp; omega
           go_roundg (gk - 1)
           case measure => omega
           case rel => exact ⟨n + 1, by omega, by omega, by go_num, rfl, ⟨by rw [HS.out, H.out, hgt]; rfl⟩⟩)
        | (have hgf : goodL c = false := by rw [HG.out]; simp; omega
           go_ret
           refine ⟨?_, H1.out⟩
           rw [HTF.out, HB.out hgf]
           rfl)
    · have hne : n = r.size := by omega
      have e : (lst r).take n = lst r := by rw [hne, ← lst_length, List.take_length]
      rw [e] at H
      have hT : T = (b && !r.toList.isEmpty) := by rw [HTF.out, H.out, emp_str]; rfl
      have HTG := Aside0.mk hT
      have t1 : decide ((n : Int) < (r.size : Int)) = false := by simp; omega
      have t2 : decide (n < r.size) = false := by simp; omega
      clear hT hne e
      cases b with
      | true =>
        go_wp2_with (fail)
        go_ret
        exact ⟨by rw [HTG.out]; rfl, H1.out⟩
      | false =>
        go_wp2_with (fail)
        go_ret
        exact ⟨by rw [HTG.out]; rfl, H1.out⟩
end Go.Proofs.YteiknmcmaemcoaaDoor
