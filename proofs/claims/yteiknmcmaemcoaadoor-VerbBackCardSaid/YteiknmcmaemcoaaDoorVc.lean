/- What path's small functions answer: plain, atom, label. -/
import Derived.Test.YteiknmcmaemcoaaDoorProg
import Derived.WalkKit
import Derived.WalkLawsBesides
import Derived.Outline
import Derived.LoopTactic
import Derived.Lib.Hide
import Derived.Deep.QuietTactic
import Derived.BigQuiet
import Derived.Deep.LoopGhost
import Derived.Deep.DeepCutAuto
import Derived.Deep.CutBlock
import Derived.Deep.RegionHeld3
import Derived.Deep.RegionWith
import Derived.Deep.WholeRow
import Derived.Laws.Rows
import Derived.Laws.Tables
import Derived.Laws.ResultCell
import Derived.StillTailTactics
import Derived.Deep.DeepMust
import Derived.IntWalk
import Derived.KernelRfl
import Derived.Test.YteiknmcmaemcoaaDoorWWords
import Derived.Test.YteiknmcmaemcoaaDoorWLast
import Derived.Test.YteiknmcmaemcoaaDoorWMore
import Derived.RegionTactic
import Derived.Test.YteiknmcmaemcoaaDoorVb
import Derived.Test.YteiknmcmaemcoaaDoorShelf
namespace Go.Proofs.YteiknmcmaemcoaaDoor
open Go.RowKit
open Go.Proofs.YteiknmcmaemcoaaDoorW.PrintWords
set_option linter.unusedVariables false
set_option linter.unusedSimpArgs false
theorem plain_any (c : UInt8) (x : Int) (hx : x = (c.toNat : Int)) (w : World) :
    Calls Tryd.prog 64 #[.int .u8 x] w fun e w' => e = .returned (.bool (V.isPlain c)) ∧ w' = w := by
  have hv : V.isPlain c = (decide (97 ≤ x ∧ x ≤ 122) || decide (65 ≤ x ∧ x ≤ 90) || decide (48 ≤ x ∧ x ≤ 57)) := by
    subst hx
    unfold V.isPlain
    simp only [UInt8.le_iff_toNat_le]
    congr 1
    · congr 1
      · apply decide_eq_decide.2
        constructor <;> (simp; omega)
      · apply decide_eq_decide.2
        constructor <;> (simp; omega)
    · apply decide_eq_decide.2
      constructor <;> (simp; omega)
  have HV := Aside0.mk hv
  clear hv hx
  go_enter Tryd.func64, Tryd.ntmps64
  go_wp2_with (fail)
  all_goals (go_ret; refine ⟨?_, rfl⟩; rw [HV.out]; refine congrArg Ending.returned ?_; show Value.bool _ = Value.bool _; congr 1; rw [Bool.eq_iff_iff]; simp; omega)
/-- The byte that an index tells. -/
theorem index_str (s : ByteArray) (n : Nat) (h : n < s.size) (c : UInt8) (hc : c = (lst s).getD n 0) (x : Int) (hx : x = (c.toNat : Int)) (w : World) : (Instr.index 9 (.string s) (.int .i64 (n : Int))).run Tryd.prog w = .ok (.int .u8 x) w := by
  subst hx hc
  rw [run_index_string w 9 s .i64 _ Tryd.underlying9, dif_pos (by omega)]
  have e : (lst s)[n]? = some s.data[n] := by rw [lst, Array.getElem?_toList, Array.getElem?_eq_getElem h]
  rw [List.getD_eq_getElem?_getD, e]
  rfl
theorem emp_str (s : ByteArray) : s.toList.isEmpty = (lst s).isEmpty := by rw [ByteArray.toList_eq]; rfl
theorem idx_mem (c : UInt8) : ∀ l : V.Bs, decide (Lib.indexByte l c < 0) = !l.contains c
  | [] => by simp [Lib.indexByte]
  | b :: l => by
    have ih := idx_mem c l
    have hg := Lib.indexByte_ge l c
    unfold Lib.indexByte
    by_cases h : b = c
    · subst h; simp
    · have h1 : (b == c) = false := by simp [h]
      have h2 : (b :: l).contains c = l.contains c := by simp [List.contains_cons, Ne.symm h]
      rw [h1, h2, ← ih]
      simp only [Bool.false_eq_true, if_false]
      apply decide_eq_decide.2
      by_cases h3 : Lib.indexByte l c = -1
      · simp [h3]
      · have h4 : ¬ ((Lib.indexByte l c == -1) = true) := by simp [h3]
        rw [if_neg h4]
        omega
theorem mark_any (D : ByteArray) (hD : D = str V.marks) (c : UInt8) (x : Int) (hx : x = (c.toNat : Int)) (w : World) :
    Calls Tryd.prog 65 #[.string D, .int .u8 x] w fun e w' => (∃ i : Int, e = .returned (.int .i64 i) ∧ decide (i < 0) = !V.marks.contains c) ∧ w' = w := by
  subst hD hx
  have h := Tryd.strings_IndexByte (str V.marks) (c.toNat : Int) w
  refine h.mono ?_
  rintro e w' ⟨rfl, rfl⟩
  have e1 : ((c.toNat : Int)).toNat.toUInt8 = c := by simp
  rw [e1]
  exact ⟨⟨_, rfl, idx_mem c _⟩, rfl⟩
def goodA (c : UInt8) : Bool := V.isPlain c || V.marks.contains c
theorem all_take (l : V.Bs) (p : UInt8 → Bool) (n : Nat) (hn : n < l.length) (c : UInt8) (hc : c = l.getD n 0) : (l.take (n + 1)).all p = ((l.take n).all p && p c) := by
  have e : l.take (n + 1) = l.take n ++ [c] := by
    rw [List.take_succ_eq_append_getElem hn, hc]; simp [List.getD_eq_getElem?_getD, hn]
  rw [e, List.all_append]; simp
theorem all_false (l : V.Bs) (p : UInt8 → Bool) (n : Nat) (hn : n < l.length) (c : UInt8) (hc : c = l.getD n 0) (h : p c = false) : l.all p = false := by
  rw [List.all_eq_false]
  refine ⟨l[n], List.getElem_mem hn, ?_⟩
  have : c = l[n] := by rw [hc]; simp [List.getD_eq_getElem?_getD, hn]
  rw [← this, h]; simp
set_option maxRecDepth 100000 in
set_option maxHeartbeats 1000000 in
theorem atom_any (s : ByteArray) (w : World) (hs : s.size ≤ 1000000) :
    Calls Tryd.prog 47 #[.string s] w fun e w' => e = .returned (.bool (V.atom (lst s))) ∧ w' = w := by
  obtain ⟨D, hD⟩ : ∃ D, D = str V.marks := ⟨_, rfl⟩
  have HD := Aside0.mk hD
  have hd : ({ data := #[33, 35, 36, 37, 38, 39, 42, 43, 45, 47, 61, 63, 94, 95, 96, 123, 124, 125, 126] } : ByteArray) = D := hD.symm
  clear hD
  obtain ⟨T, hT⟩ : ∃ T, T = V.atom (lst s) := ⟨_, rfl⟩
  rw [← hT]
  have HT := Aside0.mk hT
  clear hT
  go_enter Tryd.func47, Tryd.ntmps47
  go_wp2_with (fail)
  rw [hd]
  clear hd
  go_loopg [6] s.size (fun g v6 wr => ∃ n : Nat, n ≤ s.size ∧ g + n = s.size ∧ v6 = .int .i64 n ∧ wr = w ∧ Aside0 (((lst s).take n).all goodA = true))
  case atStart => exact ⟨0, by omega, by omega, rfl, rfl, ⟨by simp⟩⟩
  case round =>
    obtain ⟨n, hn, hg, rfl, rfl, H⟩ := hrel
    by_cases hlt : n < s.size
    · obtain ⟨c, hc⟩ : ∃ c, c = (lst s).getD n 0 := ⟨_, rfl⟩
      obtain ⟨x, hx⟩ : ∃ x : Int, x = (c.toNat : Int) := ⟨_, rfl⟩
      have hix := fun w => index_str s n hlt c hc x hx w
      have hstep := all_take (lst s) goodA n (by rw [lst_length]; exact hlt) c hc
      have hbad := all_false (lst s) goodA n (by rw [lst_length]; exact hlt) c hc
      have hlt' : (n : Int) < (s.size : Int) := by omega
      have h0 : (0 : Int) ≤ (n : Int) := by omega
      have HX := Aside0.mk hx
      have HS := Aside0.mk hstep
      have HB := Aside0.mk hbad
      clear hx hc hstep hbad
      cases hp : V.isPlain c with
      | true =>
        have HP := Aside0.mk hp
        go_wp2_with (first | (go_at_call 64; with_reducible refine Calls.mono (plain_any c x HX.out wr) ?_; rintro e w1 ⟨rfl, rfl⟩; rw [HP.out]))
        go_roundg (gk - 1)
        case measure => omega
        case rel => exact ⟨n + 1, by omega, by omega, by go_num, rfl, ⟨by rw [HS.out, H.out]; unfold goodA; rw [HP.out]; rfl⟩⟩
      | false =>
        have HP := Aside0.mk hp
        cases hm : V.marks.contains c with
        | true =>
          have HM := Aside0.mk hm
          go_wp2_with (first | (go_at_call 64; with_reducible refine Calls.mono (plain_any c x HX.out wr) ?_; rintro e w1 ⟨rfl, rfl⟩; rw [HP.out]) | (go_at_call 65; with_reducible refine Calls.mono (mark_any D HD.out c x HX.out _) ?_; rintro e w2 ⟨⟨i, rfl, hi⟩, rfl⟩; rw [HM.out] at hi; simp only [Bool.not_true, Bool.not_false] at hi))
          go_roundg (gk - 1)
          case measure => omega
          case rel => exact ⟨n + 1, by omega, by omega, by go_num, rfl, ⟨by rw [HS.out, H.out]; unfold goodA; rw [HM.out, HP.out]; rfl⟩⟩
        | false =>
          have HM := Aside0.mk hm
          have hT : T = false := by rw [HT.out]; unfold V.atom; rw [show (fun c => V.isPlain c || V.marks.contains c) = goodA from rfl, HB.out (by unfold goodA; rw [HM.out, HP.out]; rfl)]; simp
          have HTF := Aside0.mk hT
          clear hT
          go_wp2_with (first | (go_at_call 64; with_reducible refine Calls.mono (plain_any c x HX.out wr) ?_; rintro e w1 ⟨rfl, rfl⟩; rw [HP.out]) | (go_at_call 65; with_reducible refine Calls.mono (mark_any D HD.out c x HX.out _) ?_; rintro e w2 ⟨⟨i, rfl, hi⟩, rfl⟩; rw [HM.out] at hi; simp only [Bool.not_true, Bool.not_false] at hi))
          go_ret
          exact ⟨by rw [HTF.out]; rfl, rfl⟩
    · have hne : n = s.size := by omega
      have e : (lst s).take n = lst s := by rw [hne, ← lst_length, List.take_length]
      rw [e] at H
      have hT : T = !s.toList.isEmpty := by
        rw [HT.out]
        unfold V.atom
        rw [show (fun c => V.isPlain c || V.marks.contains c) = goodA from rfl, H.out, emp_str]
        rfl
      have t1 : decide ((n : Int) < (s.size : Int)) = false := by simp; omega
      have t2 : decide (n < s.size) = false := by simp; omega
      have HTF := Aside0.mk hT
      clear e hT hne
      go_wp2_with (fail)
      go_ret
      exact ⟨by rw [HTF.out]; rfl, rfl⟩
def goodL (c : UInt8) : Bool := V.isPlain c || c == 45
theorem byte_45 (c : UInt8) (x : Int) (hx : x = (c.toNat : Int)) : (c == 45) = decide (x = 45) := by
  subst hx
  rw [Bool.eq_iff_iff]
  simp only [beq_iff_eq, decide_eq_true_eq]
  constructor
  · rintro rfl; rfl
  · intro h
    apply UInt8.toNat_inj.1
    have : (45 : UInt8).toNat = 45 := rfl
    omega
set_option maxRecDepth 100000 in
set_option maxHeartbeats 1000000 in
theorem label_any (s : ByteArray) (w : World) (hs : s.size ≤ 1000000) :
    Calls Tryd.prog 55 #[.string s] w fun e w' => e = .returned (.bool (V.label (lst s))) ∧ w' = w := by
  obtain ⟨T, hT⟩ : ∃ T, T = V.label (lst s) := ⟨_, rfl⟩
  rw [← hT]
  have HT := Aside0.mk hT
  clear hT
  go_enter Tryd.func55, Tryd.ntmps55
  go_wp2_with (fail)
  go_loopg [6] s.size (fun g v6 wr => ∃ n : Nat, n ≤ s.size ∧ g + n = s.size ∧ v6 = .int .i64 n ∧ wr = w ∧ Aside0 (((lst s).take n).all goodL = true))
  case atStart => exact ⟨0, by omega, by omega, rfl, rfl, ⟨by simp⟩⟩
  case round =>
    obtain ⟨n, hn, hg, rfl, rfl, H⟩ := hrel
    by_cases hlt : n < s.size
    · obtain ⟨c, hc⟩ : ∃ c, c = (lst s).getD n 0 := ⟨_, rfl⟩
      obtain ⟨x, hx⟩ : ∃ x : Int, x = (c.toNat : Int) := ⟨_, rfl⟩
      have hix := fun w => index_str s n hlt c hc x hx w
      have hstep := all_take (lst s) goodL n (by rw [lst_length]; exact hlt) c hc
      have hbad := all_false (lst s) goodL n (by rw [lst_length]; exact hlt) c hc
      have hlt' : (n : Int) < (s.size : Int) := by omega
      have h0 : (0 : Int) ≤ (n : Int) := by omega
      have HX := Aside0.mk hx
      have HS := Aside0.mk hstep
      have HB := Aside0.mk hbad
      have H45 := Aside0.mk (byte_45 c x hx)
      clear hx hc hstep hbad
      cases hp : V.isPlain c with
      | true =>
        have HP := Aside0.mk hp
        go_wp2_with (first | (go_at_call 64; with_reducible refine Calls.mono (plain_any c x HX.out wr) ?_; rintro e w1 ⟨rfl, rfl⟩; rw [HP.out]))
        go_roundg (gk - 1)
        case measure => omega
        case rel => exact ⟨n + 1, by omega, by omega, by go_num, rfl, ⟨by rw [HS.out, H.out]; unfold goodL; rw [HP.out]; rfl⟩⟩
      | false =>
        have HP := Aside0.mk hp
        by_cases hm : x = 45
        · have hm1 : (c == 45) = true := by rw [H45.out]; simp [hm]
          have HM := Aside0.mk hm1
          have t5 : (x != 45) = false := by simp [hm]
          clear hm hm1
          go_wp2_with (first | (go_at_call 64; with_reducible refine Calls.mono (plain_any c x HX.out wr) ?_; rintro e w1 ⟨rfl, rfl⟩; rw [HP.out]))
          go_roundg (gk - 1)
          case measure => omega
          case rel => exact ⟨n + 1, by omega, by omega, by go_num, rfl, ⟨by rw [HS.out, H.out]; unfold goodL; rw [HM.out, HP.out]; rfl⟩⟩
        · have hm1 : (c == 45) = false := by rw [H45.out]; simp [hm]
          have hT : T = false := by rw [HT.out]; unfold V.label; rw [show (fun c => V.isPlain c || c == 45) = goodL from rfl, HB.out (by unfold goodL; rw [hm1, hp]; rfl)]; simp
          have HTF := Aside0.mk hT
          have t5 : (x != 45) = true := by simp [hm]
          clear hT hm1
          go_wp2_with (first | (go_at_call 64; with_reducible refine Calls.mono (plain_any c x HX.out wr) ?_; rintro e w1 ⟨rfl, rfl⟩; rw [HP.out]))
          go_ret
          exact ⟨by rw [HTF.out]; rfl, rfl⟩
    · have hne : n = s.size := by omega
      have e : (lst s).take n = lst s := by rw [hne, ← lst_length, List.take_length]
      rw [e] at H
      have hT : T = (!(lst s).isEmpty && decide (s.size ≤ 63) && (lst s).head? != some 45 && (lst s).getLast? != some 45) := by
        rw [HT.out]
        unfold V.label
        rw [show (fun c => V.isPlain c || c == 45) = goodL from rfl, H.out, lst_length]
        rfl
      have t1 : decide ((n : Int) < (s.size : Int)) = false := by simp; omega
      have t2 : decide (n < s.size) = false := by simp; omega
      by_cases h0 : s.size = 0
      · have hl : lst s = [] := List.eq_nil_of_length_eq_zero (by rw [lst_length]; exact h0)
        have t3 : s.toList.isEmpty = true := by rw [emp_str, hl]; rfl
        rw [hl] at hT
        have HTF := Aside0.mk hT
        clear e hT hne hl h0
        go_wp2_with (fail)
        go_ret
        exact ⟨by rw [HTF.out]; rfl, rfl⟩
      · obtain ⟨a, ha⟩ : ∃ a, a = (lst s).getD 0 0 := ⟨_, rfl⟩
        obtain ⟨z, hz⟩ : ∃ z, z = (lst s).getD (s.size - 1) 0 := ⟨_, rfl⟩
        obtain ⟨xa, hxa⟩ : ∃ x : Int, x = (a.toNat : Int) := ⟨_, rfl⟩
        obtain ⟨xz, hxz⟩ : ∃ x : Int, x = (z.toNat : Int) := ⟨_, rfl⟩
        have hi1 := fun w => index_str s 0 (by omega) a ha xa hxa w
        have hi2 : ∀ w, (Instr.index 9 (.string s) (.int .i64 ((s.size : Int) - 1))).run Tryd.prog w = .ok (.int .u8 xz) w := by
          intro w
          have := index_str s (s.size - 1) (by omega) z hz xz hxz w
          rw [show ((s.size - 1 : Nat) : Int) = (s.size : Int) - 1 by omega] at this
          exact this
        have e1 : (lst s).head? = some a := by
          rw [ha]
          cases hl : lst s with
          | nil => rw [← lst_length, hl] at h0; exact absurd rfl h0
          | cons y l => rfl
        have e2 : (lst s).getLast? = some z := by
          rw [hz, ← lst_length, List.getLast?_eq_getElem?, List.getD_eq_getElem?_getD, List.getElem?_eq_getElem (by rw [lst_length]; omega)]
          rfl
        have e3 : (lst s).isEmpty = false := by
          cases hl : lst s with
          | nil => rw [← lst_length, hl] at h0; exact absurd rfl h0
          | cons y l => rfl
        have t3 : s.toList.isEmpty = false := by rw [emp_str, e3]
        have hv : T = (decide ((s.size : Int) ≤ 63) && !decide (xa = 45) && !decide (xz = 45)) := by
          have e4 : ∀ y : UInt8, (some y != some (45 : UInt8)) = !(y == 45) := fun y => rfl
          have e5 : decide (s.size ≤ 63) = decide ((s.size : Int) ≤ 63) := decide_eq_decide.2 (by omega)
          rw [hT, e1, e2, e3, e4, e4, e5, byte_45 a xa hxa, byte_45 z xz hxz]
          rfl
        have HTF := Aside0.mk hv
        simp only [Int.natCast_zero] at hi1
        have hpos : (0 : Int) < (s.size : Int) := by omega
        clear e hT hne hv e1 e2 e3 hxa hxz ha hz h0
        go_wp2_with (fail)
        all_goals (go_ret; refine ⟨?_, rfl⟩; rw [HTF.out]; refine congrArg Ending.returned ?_; show Value.bool _ = Value.bool _; congr 1; rw [Bool.eq_iff_iff]; simp; omega)
end Go.Proofs.YteiknmcmaemcoaaDoor
