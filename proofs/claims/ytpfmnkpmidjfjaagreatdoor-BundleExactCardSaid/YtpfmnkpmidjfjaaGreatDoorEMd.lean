/- Texts of this seat, one behind the other: the plain law, the walks. -/
import Derived.Test.YtpfmnkpmidjfjaaGreatDoorEXb
import Derived.Test.YtpfmnkpmidjfjaaGreatDoorProg
import Derived.WalkKit
import Derived.WalkLawsBesides
import Derived.Outline
import Derived.LoopTactic
import Derived.Lib.Hide
import Derived.Deep.QuietTactic
import Derived.BigQuiet
import Derived.Deep.LoopGhost
import Derived.Deep.DeepCutAuto
import Derived.Deep.CutBlock
import Derived.Deep.RegionHeld3
import Derived.Deep.RegionWith
import Derived.Deep.WholeRow
import Derived.Laws.Rows
import Derived.Laws.Tables
import Derived.Laws.ResultCell
import Derived.StillTailTactics
import Derived.Deep.DeepMust
import Derived.IntWalk
import Derived.KernelRfl
import Derived.Test.YtpfmnkpmidjfjaaGreatDoorEXa
import Derived.RegionTactic
import Derived.Lib.AppendStr
import Derived.Lib.AtoiTie
import Derived.Laws.DeepStrings4
import Derived.Test.YtpfmnkpmidjfjaaGreatDoorEMa
import Derived.Test.YtpfmnkpmidjfjaaGreatDoorEMb
import Derived.Test.YtpfmnkpmidjfjaaGreatDoorEMc
/- The reference's Domain, Local, Path answer as the program's, in plain Lean. -/
namespace Go.Proofs.YtpfmnkpmidjfjaaGreatDoor
open Go.RowKit Go.Proofs.YtpfmnkpmidjfjaaGreatDoorW.PrintWords Go.Proofs.YtpfmnkpmidjfjaaGreatDoor.PBundleExact
set_option linter.unusedVariables false
set_option linter.unusedSimpArgs false
theorem bt_lst (s : ByteArray) (i : Nat) : bt s (i : Int) = (((lst s).getD i 0).toNat : Int) := by
 unfold bt
 simp only [Int.toNat_natCast]
 by_cases h : i < s.size
 ·rw [dif_pos h]
  have : (lst s)[i]? = some (s.data[i]'h) := by rw [lst, Array.getElem?_toList, Array.getElem?_eq_getElem h]
  rw [List.getD_eq_getElem?_getD, this]
  rfl
 ·rw [dif_neg h, List.getD_eq_getElem?_getD, List.getElem?_eq_none (by rw [lst_length]; omega)]
  rfl
def isLet (c : UInt8) : Bool := decide (97 ≤ c ∧ c ≤ 122) || decide (65 ≤ c ∧ c ≤ 90)
def isDig (c : UInt8) : Bool := decide (48 ≤ c ∧ c ≤ 57)
theorem letter_f (c : UInt8) : wherryref11_letter.f (c.toNat : Int) = some (isLet c) := by
 have h : ∀ n : Nat, n < 256 → wherryref11_letter.f (n : Int) = some (isLet (UInt8.ofNat n)) := by decide +kernel
 have := h c.toNat c.toNat_lt
 simpa using this
theorem digit_f (c : UInt8) : wherryref11_digit.f (c.toNat : Int) = some (isDig c) := by
 have h : ∀ n : Nat, n < 256 → wherryref11_digit.f (n : Int) = some (isDig (UInt8.ofNat n)) := by decide +kernel
 have := h c.toNat c.toNat_lt
 simpa using this
theorem plain_let (c : UInt8) : V.isPlain c = (isLet c || isDig c) := by
 simp [V.isPlain, isLet, isDig]
def okL (c : UInt8) : Bool := V.isPlain c || c == 45
theorem eq45 (c : UInt8) : decide ((c.toNat : Int) = 45) = (c == 45) := by
 rw [Bool.eq_iff_iff]; simp; constructor
 ·intro h; apply UInt8.toNat_inj.1; simpa using (by omega : c.toNat = 45)
 ·rintro rfl; rfl
theorem eq46 (c : UInt8) : decide ((c.toNat : Int) = 46) = (c == 46) := by
 rw [Bool.eq_iff_iff]; simp; constructor
 ·intro h; apply UInt8.toNat_inj.1; simpa using (by omega : c.toNat = 46)
 ·rintro rfl; rfl
theorem splitOn_none (c : UInt8) : ∀ a : V.Bs, (∀ x ∈ a, x ≠ c) → V.splitOn c a = [a]
 | [], _ => rfl
 | x :: a, h => by
  unfold V.splitOn
  rw [if_neg (h x (by simp)), splitOn_none c a (fun y hy => h y (by simp [hy]))]
theorem splitOn_app (c : UInt8) (r : V.Bs) : ∀ a : V.Bs, (∀ x ∈ a, x ≠ c) → V.splitOn c (a ++ c :: r) = a :: V.splitOn c r
 | [], _ => by simp [V.splitOn]
 | x :: a, h => by
  rw [List.cons_append]
  rw [V.splitOn, if_neg (h x (by simp)), splitOn_app c r a (fun y hy => h y (by simp [hy]))]
theorem splitOn_bad (p : UInt8 → Bool) (c y : UInt8) (r : V.Bs) (hy : p y = false) (hyc : y ≠ c) : ∀ a : V.Bs, (∀ x ∈ a, x ≠ c) → ∃ b t, V.splitOn c (a ++ y :: r) = b :: t ∧ b.all p = false
 | [], _ => by
  simp only [List.nil_append]
  unfold V.splitOn
  rw [if_neg hyc]
  cases h : V.splitOn c r with
  | nil => exact ⟨[y], [], rfl, by simp [hy]⟩
  | cons a t => exact ⟨y :: a, t, rfl, by simp [hy]⟩
 | x :: a, h => by
  obtain ⟨b, t, e, hb⟩ := splitOn_bad p c y r hy hyc a (fun z hz => h z (by simp [hz]))
  rw [List.cons_append, V.splitOn, if_neg (h x (by simp)), e]
  exact ⟨x :: b, t, rfl, by simp [hb]⟩
theorem okL_dot : okL 46 = false := by decide
theorem label_okL (l : V.Bs) : V.label l = (l.all okL && !l.isEmpty && decide (l.length ≤ 63) && l.head? != some 45 && l.getLast? != some 45) := rfl
theorem wrap_small (x : Int) (h0 : -1000000 ≤ x) (h1 : x ≤ 1000000) : wrap64 x = x := by unfold wrap64; omega
theorem in_f (a b c : Int) : wherryref11_in.f a b c = some (decide (b ≤ a ∧ a ≤ c)) := by
 unfold wherryref11_in.f
 split
 ·rename_i h; simp; omega
 ·rename_i h; simp; omega
theorem dom_seg (l : V.Bs) (fr i : Nat) (hf : fr ≤ i) (hi : i ≤ l.length) : l.drop fr = (l.drop fr).take (i - fr) ++ l.drop i := by
 have e : l.drop i = (l.drop fr).drop (i - fr) := by rw [List.drop_drop]; congr 1; omega
 rw [e, List.take_append_drop]
theorem seg_len (l : V.Bs) (fr i : Nat) (hf : fr ≤ i) (hi : i ≤ l.length) : ((l.drop fr).take (i - fr)).length = i - fr := by simp; omega
theorem seg_head (l : V.Bs) (fr i : Nat) (hf : fr < i) (hi : i ≤ l.length) : ((l.drop fr).take (i - fr)).head? = some (l.getD fr 0) := by
 rw [List.head?_eq_getElem?, List.getElem?_take, if_pos (by omega), List.getElem?_drop, List.getD_eq_getElem?_getD, Nat.add_zero, List.getElem?_eq_getElem (by omega)]
 rfl
theorem seg_last (l : V.Bs) (fr i : Nat) (hf : fr < i) (hi : i ≤ l.length) : ((l.drop fr).take (i - fr)).getLast? = some (l.getD (i - 1) 0) := by
 rw [List.getLast?_eq_getElem?, seg_len l fr i (by omega) hi, List.getElem?_take, if_pos (by omega), List.getElem?_drop, List.getD_eq_getElem?_getD, show fr + (i - fr - 1) = i - 1 by omega, List.getElem?_eq_getElem (by omega)]
 rfl
theorem seg_label (l : V.Bs) (fr i : Nat) (hf : fr ≤ i) (hi : i ≤ l.length) (hok : ∀ x ∈ (l.drop fr).take (i - fr), okL x = true) :
  V.label ((l.drop fr).take (i - fr)) = (decide (1 ≤ i - fr ∧ i - fr ≤ 63) && !(l.getD fr 0 == 45) && !(l.getD (i - 1) 0 == 45)) := by
 rw [label_okL, List.all_eq_true.2 hok, seg_len l fr i hf hi]
 by_cases h : fr < i
 ·rw [seg_head l fr i h hi, seg_last l fr i h hi]
  have hne : ((l.drop fr).take (i - fr)).isEmpty = false := by
   have := seg_len l fr i hf hi
   cases e : (l.drop fr).take (i - fr) with
   | nil => rw [e] at this; simp at this; omega
   | cons a b => rfl
  rw [hne]
  have h1 : decide (1 ≤ i - fr ∧ i - fr ≤ 63) = decide (i - fr ≤ 63) := by
   rw [Bool.eq_iff_iff]; simp; omega
  rw [h1]
  simp [bne]
 ·have e : i - fr = 0 := by omega
  rw [e]
  simp
set_option maxHeartbeats 1000000 in
theorem dom_end (s : ByteArray) (hs : s.size ≤ 100000) (i fr k : Nat) (hi : i ≤ s.size) (hf : fr ≤ i) (hok : ∀ x ∈ ((lst s).drop fr).take (i - fr), okL x = true) (R : Option Bool)
  (hR : wherryref11_Domain.l0 k s ((i + 1 : Nat) : Int) ((i + 1 : Nat) : Int) = R) :
  wherryref11_Domain.j1 (k + 1) s (fr : Int) (i : Int) false = if V.label (((lst s).drop fr).take (i - fr)) = true then R else some false := by
 have hl : (lst s).length = s.size := lst_length s
 rw [seg_label (lst s) fr i hf (by omega) hok]
 unfold wherryref11_Domain.j1
 rw [if_neg (by decide), in_f, wrap_small _ (by omega) (by omega), wrap_small _ (by omega) (by omega)]
 simp only [Option.bind_some, decide_eq_true_eq]
 by_cases h1 : 1 ≤ i - fr ∧ i - fr ≤ 63
 ·rw [if_pos (by omega), if_pos (by omega), if_pos (by omega), bt_lst]
  have e1 : ((i : Int) - 1) = ((i - 1 : Nat) : Int) := by omega
  have e2 := eq45 ((lst s).getD fr 0)
  have e3 := eq45 ((lst s).getD (i - 1) 0)
  have e4 : ((i : Int) + 1) = ((i + 1 : Nat) : Int) := by omega
  rw [decide_eq_true h1]
  by_cases h2 : (((lst s).getD fr 0).toNat : Int) = 45
  ·rw [if_pos h2, ← e2, decide_eq_true h2]; rfl
  ·rw [if_neg h2, ← e2, decide_eq_false h2]
   rw [e1, if_pos (by omega), if_pos (by omega), bt_lst, wrap_small _ (by omega) (by omega), e4, hR]
   by_cases h3 : (((lst s).getD (i - 1) 0).toNat : Int) = 45
   ·rw [if_pos h3, ← e3, decide_eq_true h3]; rfl
   ·rw [if_neg h3, ← e3, decide_eq_false h3]; rfl
 ·rw [if_neg (by omega), decide_eq_false h1]; rfl
theorem no_dot {l : V.Bs} (h : ∀ x ∈ l, okL x = true) : ∀ x ∈ l, x ≠ 46 := by
 rintro x hx rfl
 have := h _ hx
 rw [okL_dot] at this
 cases this
set_option maxHeartbeats 1000000 in
theorem dom_loop (s : ByteArray) (hs : s.size ≤ 100000) : ∀ (m i fr k : Nat), s.size - i = m → i ≤ s.size → fr ≤ i → (∀ x ∈ ((lst s).drop fr).take (i - fr), okL x = true) →
  wherryref11_Domain.l0 (3 * m + 5 + k) s (fr : Int) (i : Int) = some ((V.splitOn 46 ((lst s).drop fr)).all V.label) := by
 have hl : (lst s).length = s.size := lst_length s
 intro m
 induction m with
 | zero =>
  intro i fr k hm hi hf hok
  have hin : i = s.size := by omega
  rw [show 3 * 0 + 5 + k = (k + 3) + 1 + 1 by omega]
  unfold wherryref11_Domain.l0
  rw [if_pos (by omega), if_neg (by omega), dom_end s hs i fr (k + 3) hi hf hok (some true) (by unfold wherryref11_Domain.l0; rw [if_neg (by omega)])]
  have e : (lst s).drop fr = ((lst s).drop fr).take (i - fr) := by
   rw [List.take_of_length_le (by simp; omega)]
  have e2 := splitOn_none 46 _ (no_dot hok)
  rw [← e] at e2 ⊢
  rw [e2]
  simp only [List.all_cons, List.all_nil, Bool.and_true]
  cases V.label ((lst s).drop fr) <;> rfl
 | succ m ih =>
  intro i fr k hm hi hf hok
  have hlt : i < s.size := by omega
  rw [show 3 * (m + 1) + 5 + k = (3 * m + 5 + k) + 1 + 1 + 1 by omega]
  rw [wherryref11_Domain.l0]
  rw [if_pos (by omega), if_pos (by omega), if_pos (by omega), bt_lst]
  obtain ⟨c, hc⟩ : ∃ c, c = (lst s).getD i 0 := ⟨_, rfl⟩
  rw [← hc]
  have hd : (lst s).drop i = c :: (lst s).drop (i + 1) := by
   rw [List.drop_eq_getElem_cons (by omega), hc, List.getD_eq_getElem?_getD, List.getElem?_eq_getElem (by omega)]; rfl
  have hseg := dom_seg (lst s) fr i hf (by omega)
  rw [hd] at hseg
  by_cases h46 : c = 46
  ·subst h46
   have e : (((46 : UInt8).toNat : Int) != 46) = false := by decide
   rw [e, dom_end s hs i fr (3 * m + 5 + k + 1) (by omega) hf hok (some ((V.splitOn 46 ((lst s).drop (i + 1))).all V.label)) (by
    rw [show 3 * m + 5 + k + 1 = 3 * m + 5 + (k + 1) by omega]
    exact ih (i + 1) (i + 1) (k + 1) (by omega) (by omega) (by omega) (by rw [Nat.sub_self]; simp))]
   rw [hseg, splitOn_app 46 _ _ (no_dot hok), ← hseg]
   simp only [List.all_cons]
   cases V.label (((lst s).drop fr).take (i - fr)) <;> rfl
  ·have e : ((c.toNat : Int) != 46) = true := by
    have := eq46 c
    rw [show (c == 46) = false by simpa using h46] at this
    simp at this
    simpa using this
   rw [e, wherryref11_Domain.j1, if_pos rfl, if_pos (by omega), if_pos (by omega), bt_lst, ← hc, letter_f, digit_f]
   have hgo : okL c = true → wherryref11_Domain.j2 (3 * m + 5 + k + 1) s (fr : Int) (i : Int) false = some ((V.splitOn 46 ((lst s).drop fr)).all V.label) := by
    intro hok'
    rw [wherryref11_Domain.j2, if_neg (by decide), wrap_small _ (by omega) (by omega)]
    exact ih (i + 1) fr k (by omega) (by omega) (by omega) (by
     intro x hx
     have e3 : ((lst s).drop fr).take (i + 1 - fr) = ((lst s).drop fr).take (i - fr) ++ [c] := by
      rw [show i + 1 - fr = (i - fr) + 1 by omega, List.take_add_one, List.getElem?_drop, show fr + (i - fr) = i by omega, List.getElem?_eq_getElem (by omega)]
      simp only [Option.toList_some]
      rw [hc, List.getD_eq_getElem?_getD, List.getElem?_eq_getElem (by omega)]
      rfl
     rw [e3] at hx
     rcases List.mem_append.1 hx with hx | hx
     ·exact hok x hx
     ·simp at hx; rw [hx]; exact hok')
   simp only [Option.bind_some]
   by_cases h1 : isLet c = true
   ·rw [if_pos h1]
    exact hgo (by unfold okL; rw [plain_let, h1]; rfl)
   ·rw [if_neg h1]
    by_cases h2 : isDig c = true
    ·rw [if_pos h2]
     exact hgo (by unfold okL; rw [plain_let, h2]; simp)
    ·rw [if_neg h2]
     by_cases h3 : c = 45
     ·have e4 : ((c.toNat : Int) != 45) = false := by rw [h3]; decide
      rw [e4]
      exact hgo (by rw [h3]; decide)
     ·have e4 : ((c.toNat : Int) != 45) = true := by
       have := eq45 c
       rw [show (c == 45) = false by simpa using h3] at this
       simp at this
       simpa using this
      rw [e4, wherryref11_Domain.j2, if_pos rfl]
      have hbad : okL c = false := by
       unfold okL
       rw [plain_let]
       simp at h1 h2
       rw [h1, h2, show (c == 45) = false by simpa using h3]
       rfl
      obtain ⟨b, t, eb, hb⟩ := splitOn_bad okL 46 c ((lst s).drop (i + 1)) hbad h46 _ (no_dot hok)
      rw [hseg, eb]
      simp only [List.all_cons]
      rw [label_okL, hb]
      rfl
theorem ref_domain2 (s : ByteArray) (hs : s.size ≤ 100000) (k : Nat) (hk : 3 * s.size + 5 ≤ k) : wherryref11_Domain.f k s = some (V.domain (lst s)) := by
 obtain ⟨d, rfl⟩ : ∃ d, k = 3 * s.size + 5 + d := ⟨k - (3 * s.size + 5), by omega⟩
 unfold wherryref11_Domain.f
 rw [in_f]
 simp only [Option.bind_some, decide_eq_true_eq]
 unfold V.domain V.parts
 rw [lst_length]
 have hk := dom_loop s hs s.size 0 0 d (by omega) (by omega) (by omega) (by simp)
 rw [List.drop_zero] at hk
 by_cases h : s.size = 0
 ·have : lst s = [] := List.eq_nil_of_length_eq_zero (by rw [lst_length]; exact h)
  rw [this, if_neg (by omega), show (V.splitOn 46 []).all V.label = false from by decide, Bool.and_false]
 ·by_cases h2 : s.size ≤ 255
  ·rw [if_pos (by omega), decide_eq_true h2]
   exact hk
  ·rw [if_neg (by omega), decide_eq_false h2]; rfl
theorem ext_take (s : ByteArray) (n : Nat) : s.extract 0 n = str ((lst s).take n) := by
 rw [← str_lst (s.extract 0 n)]
 congr 1
 simp [lst, ByteArray.data_extract]
theorem ext_drop (s : ByteArray) (n : Nat) : s.extract n s.size = str ((lst s).drop n) := by
 rw [← str_lst (s.extract n s.size)]
 congr 1
 have hl := lst_length s
 unfold lst at hl
 simp [lst, ByteArray.data_extract]
 rw [List.take_of_length_le]
 simp
theorem ext_mid (s : ByteArray) (i j : Nat) : s.extract i j = str (((lst s).drop i).take (j - i)) := by
 rw [← str_lst (s.extract i j)]
 congr 1
 simp [lst, ByteArray.data_extract]
theorem toList_lst (s : ByteArray) : s.toList = lst s := ByteArray.toList_eq s
theorem wrap_sm (x : Int) (h0 : -1000000 ≤ x) (h1 : x ≤ 1000000) : wrap64 x = x := by unfold wrap64; omega
theorem eqInt (c d : UInt8) (n : Int) (hn : n = (d.toNat : Int)) : ((c.toNat : Int) = n) ↔ c = d := by
 subst hn
 constructor
 ·intro h
  apply UInt8.toNat_inj.1
  omega
 ·rintro rfl
  rfl
theorem ref_sign (c : UInt8) (k : Nat) (hk : 30 ≤ k) : wherryref11_sign.f k (c.toNat : Int) = some (V.isPlain c || V.marks.contains c) := by
 have h : ∀ n : Nat, n < 256 → wherryref11_sign.f 30 (n : Int) = some (V.isPlain (UInt8.ofNat n) || V.marks.contains (UInt8.ofNat n)) := by decide +kernel
 have e := h c.toNat c.toNat_lt
 rw [UInt8.ofNat_toNat] at e
 obtain ⟨d, rfl⟩ : ∃ d, k = 30 + d := ⟨k - 30, by omega⟩
 clear hk
 induction d with
 | zero => exact e
 | succ d ih => exact wherryref11_sign.mono (c.toNat : Int) (30 + d) _ ih
def sgn (c : UInt8) : Bool := V.isPlain c || V.marks.contains c
theorem atom_sgn (l : V.Bs) : V.atom l = (l.all sgn && !l.isEmpty) := rfl
def allN (l : V.Bs) : Bool := (V.splitOn 46 l).all V.atom
def allE (l : V.Bs) : Bool := match V.splitOn 46 l with
 | [] => true
 | h :: t => h.all sgn && t.all V.atom
theorem allN_nil : allN [] = false := by decide
theorem allN_dot (l : V.Bs) : allN (46 :: l) = false := by
 unfold allN V.splitOn
 rw [if_pos rfl]
 rfl
theorem allE_dot (l : V.Bs) : allE (46 :: l) = allN l := by
 unfold allE allN
 rw [V.splitOn, if_pos rfl]
 rfl
theorem allN_cons (x : UInt8) (l : V.Bs) (h : x ≠ 46) : allN (x :: l) = (sgn x && allE l) := by
 unfold allN allE
 rw [V.splitOn, if_neg h]
 cases hs : V.splitOn 46 l with
 | nil => exact absurd hs (V.splitOn_ne 46 l)
 | cons a t =>
  simp only [List.all_cons, atom_sgn]
  simp [Bool.and_assoc]
theorem allE_cons (x : UInt8) (l : V.Bs) (h : x ≠ 46) : allE (x :: l) = (sgn x && allE l) := by
 unfold allE
 rw [V.splitOn, if_neg h]
 cases hs : V.splitOn 46 l with
 | nil => exact absurd hs (V.splitOn_ne 46 l)
 | cons a t =>
  simp only [List.all_cons]
  rw [Bool.and_assoc]
theorem all_last : ∀ l : V.Bs, l.getLast? = some 46 → allN l = false ∧ allE l = false
 | [], h => by cases h
 | [x], h => by
  have : x = 46 := by simpa using h
  subst this
  exact ⟨allN_dot _, by rw [allE_dot]; exact allN_nil⟩
 | x :: y :: l, h => by
  obtain ⟨h1, h2⟩ := all_last (y :: l) (by rw [← h]; rfl)
  by_cases hx : x = 46
  ·subst hx
   exact ⟨allN_dot _, by rw [allE_dot]; exact h1⟩
  ·exact ⟨by rw [allN_cons _ _ hx, h2, Bool.and_false], by rw [allE_cons _ _ hx, h2, Bool.and_false]⟩
def lgo (p : UInt8) : V.Bs → Bool
 | [] => true
 | x :: l => if x = 46 then (if p = 46 then false else lgo 46 l) else (sgn x && lgo x l)
theorem lgo_all : ∀ (l : V.Bs) (p : UInt8), l.getLast? ≠ some 46 → (p ≠ 46 → lgo p l = allE l) ∧ (l ≠ [] → lgo 46 l = allN l)
 | [], p, _ => ⟨fun _ => rfl, fun h => absurd rfl h⟩
 | x :: l, p, h => by
  have hl : l ≠ [] → l.getLast? ≠ some 46 := by
   intro hne
   cases l with
   | nil => exact absurd rfl hne
   | cons y l => intro e; exact h (by rw [← e]; rfl)
  have hl2 : l.getLast? ≠ some 46 := by
   cases l with
   | nil => intro e; cases e
   | cons y l => exact hl (by simp)
  constructor
  ·intro hp
   unfold lgo
   by_cases hx : x = 46
   ·subst hx
    have hne : l ≠ [] := by rintro rfl; exact h rfl
    rw [if_pos rfl, if_neg hp, allE_dot]
    exact (lgo_all l 46 hl2).2 hne
   ·rw [if_neg hx, allE_cons _ _ hx, (lgo_all l x hl2).1 hx]
  ·intro _
   unfold lgo
   by_cases hx : x = 46
   ·subst hx
    rw [if_pos rfl, if_pos rfl, allN_dot]
   ·rw [if_neg hx, allN_cons _ _ hx, (lgo_all l x hl2).1 hx]
theorem drop_getD (l : V.Bs) (i : Nat) (h : i < l.length) : l.drop i = l.getD i 0 :: l.drop (i + 1) := by
 rw [List.drop_eq_getElem_cons h, List.getD_eq_getElem?_getD, List.getElem?_eq_getElem h]; rfl
theorem local_l0 (s : ByteArray) (hs : s.size ≤ 100000) (h0 : (lst s).getD 0 0 ≠ 46) : ∀ (m i k : Nat), s.size - i = m → i ≤ s.size → m + 31 ≤ k →
  wherryref11_Local.l0 k s (i : Int) = some (lgo (if i = 0 then 0 else (lst s).getD (i - 1) 0) ((lst s).drop i))
 | m, i, 0, hm, hi, hk => by omega
 | 0, i, k + 1, hm, hi, hk => by
  unfold wherryref11_Local.l0
  rw [if_neg (by omega), List.drop_of_length_le (by rw [lst_length]; omega)]
  rfl
 | m + 1, i, k + 1, hm, hi, hk => by
  have hlt : i < (lst s).length := by rw [lst_length]; omega
  have ih := local_l0 s hs h0 m (i + 1) k (by omega) (by omega) (by omega)
  rw [if_neg (by omega), show i + 1 - 1 = i by omega, show ((i + 1 : Nat) : Int) = (i : Int) + 1 by omega] at ih
  unfold wherryref11_Local.l0
  rw [if_pos (by omega), if_pos (by omega), bt_lst, drop_getD _ _ hlt, lgo]
  rw [wrap_sm ((i : Int) + 1) (by omega) (by omega), ih]
  by_cases h : (lst s).getD i 0 = 46
  ·have hi0 : i ≠ 0 := by rintro rfl; exact h0 h
   rw [if_pos ((eqInt _ 46 46 rfl).2 h), if_pos h, if_neg hi0, wrap_sm _ (by omega) (by omega), if_pos (by omega), if_pos (by omega), show ((i : Int) - 1) = ((i - 1 : Nat) : Int) by omega, bt_lst]
   by_cases h2 : (lst s).getD (i - 1) 0 = 46
   ·rw [if_pos ((eqInt _ 46 46 rfl).2 h2), if_pos h2]
   ·rw [if_neg (fun e => h2 ((eqInt _ 46 46 rfl).1 e)), if_neg h2, h]
  ·rw [if_neg (fun e => h ((eqInt _ 46 46 rfl).1 e)), if_neg h, ref_sign _ k (by omega)]
   show (if sgn ((lst s).getD i 0) = true then _ else _) = _
   cases sgn ((lst s).getD i 0) <;> rfl
theorem getLast_getD (l : V.Bs) (h : 0 < l.length) : l.getLast? = some (l.getD (l.length - 1) 0) := by
 rw [List.getLast?_eq_getElem?, List.getD_eq_getElem?_getD, List.getElem?_eq_getElem (by omega)]
 rfl
theorem ref_local (s : ByteArray) (hs : s.size ≤ 100000) (k : Nat) (hk : s.size + 40 ≤ k) : wherryref11_Local.f k s = some (V.localOk (lst s)) := by
 obtain ⟨k, rfl⟩ : ∃ j, k = j + 1 := ⟨k - 1, by omega⟩
 have hl := lst_length s
 unfold wherryref11_Local.f V.localOk V.parts
 rw [in_f, hl]
 show (if decide (1 ≤ (s.size : Int) ∧ (s.size : Int) ≤ 64) = true then _ else _) = some (decide (s.size ≤ 64) && allN (lst s))
 by_cases h1 : 1 ≤ (s.size : Int) ∧ (s.size : Int) ≤ 64
 ·have e0 := bt_lst s 0
  have e1 := bt_lst s (s.size - 1)
  rw [show ((0 : Nat) : Int) = 0 from rfl] at e0
  rw [show ((s.size - 1 : Nat) : Int) = (s.size : Int) - 1 by omega] at e1
  rw [if_pos (decide_eq_true h1), if_pos (by omega), e0, wrap_sm _ (by omega) (by omega), decide_eq_true (by omega), Bool.true_and]
  have hlast := getLast_getD (lst s) (by omega)
  rw [hl] at hlast
  by_cases h2 : (lst s).getD 0 0 = 46
  ·rw [if_pos ((eqInt _ 46 46 rfl).2 h2)]
   have e : lst s = 46 :: (lst s).drop 1 := by
    have := drop_getD (lst s) 0 (by omega)
    rw [List.drop_zero, h2] at this
    exact this
   rw [e, allN_dot]
   rw [wherryref11_Local.j0]
   rw [if_pos rfl]
  ·rw [if_neg (fun e => h2 ((eqInt _ 46 46 rfl).1 e)), if_pos (by omega), if_pos (by omega), e1]
   rw [wherryref11_Local.j0]
   by_cases h3 : (lst s).getD (s.size - 1) 0 = 46
   ·rw [if_pos (by simpa using (eqInt _ 46 46 rfl).2 h3)]
    rw [h3] at hlast
    rw [(all_last _ hlast).1]
   ·rw [if_neg (by intro e; exact h3 ((eqInt _ 46 46 rfl).1 (by simpa using e)))]
    have hl0 := local_l0 s hs h2 s.size 0 k (by omega) (by omega) (by omega)
    rw [if_pos rfl, List.drop_zero] at hl0
    have hg := (lgo_all (lst s) 0 (by rw [hlast]; intro e; exact h3 (Option.some.inj e))).1 (by decide)
    rw [hg] at hl0
    rw [show ((0 : Nat) : Int) = 0 from rfl] at hl0
    rw [hl0]
    have e : lst s = (lst s).getD 0 0 :: (lst s).drop 1 := by
     have := drop_getD (lst s) 0 (by omega)
     rwa [List.drop_zero] at this
    rw [e, allN_cons _ _ h2, allE_cons _ _ h2]
 ·rw [if_neg (by simpa using h1)]
  rw [wherryref11_Local.j0]
  rw [if_pos rfl]
  by_cases h2 : s.size ≤ 64
  ·have : lst s = [] := List.eq_nil_of_length_eq_zero (by omega)
   rw [this, allN_nil, Bool.and_false]
  ·rw [decide_eq_false h2, Bool.false_and]
theorem ref_path (p : V.Path) (h1 : p.loc.length ≤ 100000) (h2 : p.dom.length ≤ 100000) (k : Nat) (hk : 3 * p.dom.length + p.loc.length + 45 ≤ k) : wherryref11_Path.f k p.null (str p.loc) (str p.dom) = some (V.check p) := by
 unfold wherryref11_Path.f V.check
 rw [toList_lst, toList_lst, lst_str, lst_str]
 have e1 := ref_local (str p.loc) (by rw [str_size]; exact h1) k (by rw [str_size]; omega)
 have e2 := ref_domain2 (str p.dom) (by rw [str_size]; exact h2) k (by rw [str_size]; omega)
 rw [lst_str] at e1 e2
 cases hn : p.null with
 | true =>
  rw [if_pos rfl]
  by_cases h : p.loc = []
  ·rw [if_pos h, h]
   cases p.dom <;> rfl
  ·rw [if_neg h]
   have : p.loc.isEmpty = false := by cases hl : p.loc with
    | nil => exact absurd hl h
    | cons a b => rfl
   rw [this]
   rfl
 | false =>
  rw [if_neg (by decide), e1]
  cases V.localOk p.loc with
  | true => simp [e2]
  | false => simp
end Go.Proofs.YtpfmnkpmidjfjaaGreatDoor
/- The reference's Body and Stuff answer as the plain ones. -/
namespace Go.Proofs.YtpfmnkpmidjfjaaGreatDoor
open Go.RowKit Go.Proofs.YtpfmnkpmidjfjaaGreatDoorW.PrintWords Go.Proofs.YtpfmnkpmidjfjaaGreatDoor.PBundleExact
set_option linter.unusedVariables false
set_option linter.unusedSimpArgs false
theorem rd_nb (l : B.Bs) (i : Nat) : rd (nb l) (i : Int) = ((l.getD i 0).toNat : Int) := by
 unfold rd
 rw [Int.toNat_natCast]
 by_cases h : i < l.length
 ·exact nb_getD l i h
 ·rw [List.getD_eq_getElem?_getD, List.getD_eq_getElem?_getD, List.getElem?_eq_none (by rw [nb_length]; omega), List.getElem?_eq_none (by omega)]
  rfl
theorem body_l0 (l : B.Bs) (hs : l.length ≤ 900000) : ∀ (m i k : Nat), l.length - i = m → i ≤ l.length → m + 1 ≤ k →
  wherryref11_Body.l0 k (nb l) (i : Int) = some (B.rbodyGo (if i = 0 then 0 else l.getD (i - 1) 0) (l.drop i) && (l.isEmpty || decide (l.getLast? = some 10)))
 | m, i, 0, hm, hi, hk => by omega
 | 0, i, k + 1, hm, hi, hk => by
  unfold wherryref11_Body.l0
  rw [nb_length, if_neg (by omega), List.drop_of_length_le (by omega)]
  show _ = some (true && _)
  rw [Bool.true_and]
  by_cases h0 : l.length = 0
  ·have : l = [] := List.eq_nil_of_length_eq_zero h0
   subst this
   rfl
  ·have hne : l.isEmpty = false := by cases l with
    | nil => exact absurd rfl h0
    | cons a b => rfl
   rw [if_neg (by omega), wrap_small _ (by omega) (by omega), if_pos (by omega), if_pos (by omega), hne, Bool.false_or, show ((l.length : Int) - 1) = ((l.length - 1 : Nat) : Int) by omega, rd_nb, getLast_getD l (by omega)]
   congr 1
   by_cases h : l.getD (l.length - 1) 0 = 10
   ·rw [h]; rfl
   ·rw [decide_eq_false (fun e => h (Option.some.inj e))]
    rw [beq_eq_false_iff_ne]
    exact fun e => h ((eqInt _ 10 10 rfl).1 e)
 | m + 1, i, k + 1, hm, hi, hk => by
  have hlt : i < l.length := by omega
  have ih := body_l0 l hs m (i + 1) k (by omega) (by omega) (by omega)
  rw [if_neg (by omega), show i + 1 - 1 = i by omega, show ((i + 1 : Nat) : Int) = (i : Int) + 1 by omega] at ih
  unfold wherryref11_Body.l0
  rw [nb_length, if_pos (by omega), if_pos (by omega), rd_nb, drop_getD _ _ hlt, B.rbodyGo, wrap_small ((i : Int) + 1) (by omega) (by omega), ih]
  by_cases h13 : l.getD i 0 = 13
  ·rw [if_pos ((eqInt _ 13 13 rfl).2 h13)]
   by_cases hend : i + 1 < l.length
   ·rw [if_neg (by omega), if_pos (by omega), if_pos (by omega), show ((i : Int) + 1) = ((i + 1 : Nat) : Int) by omega, rd_nb]
    have hh : (l.drop (i + 1)).head? = some (l.getD (i + 1) 0) := by rw [drop_getD _ _ hend]; rfl
    rw [hh]
    by_cases h10 : l.getD (i + 1) 0 = 10
    ·rw [if_pos ((eqInt _ 10 10 rfl).2 h10), if_neg (by rw [h13]; decide)]
     rw [if_neg (by rw [h10, h13]; simp)]
    ·rw [if_neg (fun e => h10 ((eqInt _ 10 10 rfl).1 e)), if_pos (Or.inl ⟨h13, fun e => h10 (Option.some.inj e)⟩)]
     rfl
   ·rw [if_pos (by omega), List.drop_of_length_le (by omega), if_pos (Or.inl ⟨h13, by simp⟩)]
    rfl
  ·rw [if_neg (fun e => h13 ((eqInt _ 13 13 rfl).1 e))]
   by_cases h10 : l.getD i 0 = 10
   ·rw [if_pos ((eqInt _ 10 10 rfl).2 h10)]
    by_cases hi0 : i = 0
    ·subst hi0
     rw [if_pos rfl, if_pos (Or.inr ⟨h10, by decide⟩)]
     rfl
    ·rw [if_neg (by omega), wrap_small _ (by omega) (by omega), if_pos (by omega), if_pos (by omega), show ((i : Int) - 1) = ((i - 1 : Nat) : Int) by omega, rd_nb, if_neg hi0]
     by_cases hp : l.getD (i - 1) 0 = 13
     ·rw [if_pos ((eqInt _ 13 13 rfl).2 hp), if_neg (by rw [hp, h10]; simp)]
     ·rw [if_neg (fun e => hp ((eqInt _ 13 13 rfl).1 e)), if_pos (Or.inr ⟨h10, hp⟩)]
      rfl
   ·rw [if_neg (fun e => h10 ((eqInt _ 10 10 rfl).1 e)), if_neg (fun e => e.elim (fun e => h13 e.1) (fun e => h10 e.1))]
theorem ref_body (l : B.Bs) (hs : l.length ≤ 900000) : wherryref11_Body.f (l.length + 1) (nb l) = some (B.body l) := by
 have := body_l0 l hs l.length 0 (l.length + 1) (by omega) (by omega) (by omega)
 rw [if_pos rfl, List.drop_zero] at this
 rw [← B.rbody_eq]
 exact this
theorem rbody_any {A : Option Addr} {c : Nat} {l : B.Bs} {w : World} (hb : Bt w A c l) (hl : l.length ≤ 900000) :
  Calls Tryz.prog 75 #[.slice A l.length c] w fun e w' => e = .returned (.bool (B.body l)) ∧ Below w.heap.size w w' := by
 have h := wherryref11_Body.calls (l.length + 1) A c (nb l) (B.body l) w hb.rd (by rw [nb_length]; exact hb.cap) (ref_body l hl)
 rw [nb_length] at h
 exact h.mono (fun e w' h => ⟨h.1, h.2.below⟩)
theorem stuff_l0 (l : B.Bs) (hs : l.length ≤ 400000) : ∀ (m i k : Nat) (o : B.Bs), l.length - i = m → i ≤ l.length → m + 1 ≤ k → o.length ≤ 2 * i →
  wherryref11_Stuff.l0 k (nb l) (nb o) (i : Int) = some (nb (o ++ B.rstuffGo (if i = 0 then 10 else l.getD (i - 1) 0) (l.drop i) ++ [46, 13, 10]))
 | m, i, 0, o, hm, hi, hk, ho => by omega
 | 0, i, k + 1, o, hm, hi, hk, ho => by
  unfold wherryref11_Stuff.l0
  rw [nb_length, if_neg (by omega), List.drop_of_length_le (by omega), nb_length]
  show (if o.length + 3 < 140737488355328 then some (nb o ++ [46, 13, 10]) else none) = _
  rw [if_pos (by omega)]
  show _ = some (nb (o ++ [] ++ [46, 13, 10]))
  rw [List.append_nil]
  unfold nb
  rw [List.map_append]
  rfl
 | m + 1, i, k + 1, o, hm, hi, hk, ho => by
  have hlt : i < l.length := by omega
  have ih := fun o2 h => stuff_l0 l hs m (i + 1) k o2 (by omega) (by omega) (by omega) h
  simp only [if_neg (show ¬ i + 1 = 0 by omega), show i + 1 - 1 = i by omega, show ((i + 1 : Nat) : Int) = (i : Int) + 1 by omega] at ih
  have e1 : nb o ++ [((l.getD i 0).toNat : Int)] = nb (o ++ [l.getD i 0]) := by unfold nb; rw [List.map_append]; rfl
  have e2 : nb o ++ [46] = nb (o ++ [46]) := by unfold nb; rw [List.map_append]; rfl
  have e3 : nb (o ++ [46]) ++ [((l.getD i 0).toNat : Int)] = nb (o ++ [46] ++ [l.getD i 0]) := by unfold nb; rw [List.map_append (l₁ := o ++ [46])]; rfl
  have i1 := ih (o ++ [l.getD i 0]) (by simp; omega)
  have i2 := ih (o ++ [46] ++ [l.getD i 0]) (by simp; omega)
  unfold wherryref11_Stuff.l0
  rw [nb_length, if_pos (by omega), if_pos (by omega), rd_nb, drop_getD _ _ hlt, B.rstuffGo, wrap_small ((i : Int) + 1) (by omega) (by omega), nb_length]
  simp only [show (o.length < 140737488355328) = True from eq_true (by omega), if_true]
  rw [e1, i1]
  by_cases h46 : l.getD i 0 = 46
  ·rw [if_pos ((eqInt _ 46 46 rfl).2 h46)]
   have es : (some (nb o ++ [46])).bind (fun y => if y.length < 140737488355328 then wherryref11_Stuff.l0 k (nb l) (y ++ [((l.getD i 0).toNat : Int)]) ((i : Int) + 1) else none) = some (nb (o ++ [46, 46] ++ B.rstuffGo (l.getD i 0) (l.drop (i + 1)) ++ [46, 13, 10])) := by
    show (if (nb o ++ [46]).length < 140737488355328 then wherryref11_Stuff.l0 k (nb l) ((nb o ++ [46]) ++ [((l.getD i 0).toNat : Int)]) ((i : Int) + 1) else none) = _
    rw [e2, nb_length, if_pos (by simp; omega), e3, i2, h46]
    simp
   by_cases hi0 : i = 0
   ·subst hi0
    rw [if_pos (show ((0 : Nat) : Int) = 0 from rfl), es, if_pos rfl, if_pos ⟨h46, rfl⟩]
    simp
   ·rw [if_neg (by omega), wrap_small _ (by omega) (by omega), if_pos (by omega), if_pos (by omega), show ((i : Int) - 1) = ((i - 1 : Nat) : Int) by omega, rd_nb, if_neg hi0]
    by_cases h10 : l.getD (i - 1) 0 = 10
    ·rw [if_pos ((eqInt _ 10 10 rfl).2 h10), if_pos ⟨h46, h10⟩, es]
     simp
    ·rw [if_neg (fun e => h10 ((eqInt _ 10 10 rfl).1 e)), if_neg (fun e => h10 e.2)]
     simp
  ·rw [if_neg (fun e => h46 ((eqInt _ 46 46 rfl).1 e)), if_neg (fun e => h46 e.1)]
   simp
theorem rstuff_any {A : Option Addr} {c : Nat} {l : B.Bs} {w : World} (hb : Bt w A c l) (hl : l.length ≤ 400000) (hbd : B.body l = true) :
  Calls Tryz.prog 56 #[.slice A l.length c] w fun e w' => (∃ v, e = .returned v ∧ Ow w.heap.size w' v (B.stuff l)) ∧ Below w.heap.size w w' := by
 have h0 := stuff_l0 l hl l.length 0 (l.length + 1) [] (by omega) (by omega) (by omega) (by simp)
 rw [if_pos rfl, List.drop_zero, List.nil_append, B.rstuff_eq hbd] at h0
 have h := wherryref11_Stuff.calls (l.length + 1) A c (nb l) (nb (B.stuff l)) w hb.rd (by rw [nb_length]; exact hb.cap) h0
 rw [nb_length] at h
 exact h.mono (fun e w' h => by
  obtain ⟨v, h1, h2, h3⟩ := h
  exact ⟨⟨v, h1, h2⟩, h3⟩)
theorem rpath_any (p : V.Path) (w : World) (hf : B.fitP p) :
  Calls Tryz.prog 74 #[.agg #[.bool p.null, .string (str p.loc), .string (str p.dom)]] w fun e w' => e = .returned (.bool (V.check p)) ∧ Below w.heap.size w w' :=
 wherryref11_Path.calls (3 * p.dom.length + p.loc.length + 45) p.null (str p.loc) (str p.dom) (V.check p) w (ref_path p hf.1 hf.2 _ (Nat.le_refl _))
end Go.Proofs.YtpfmnkpmidjfjaaGreatDoor
/- The reference's Mail and Bundle. -/
namespace Go.Proofs.YtpfmnkpmidjfjaaGreatDoor
open Go.RowKit Go.Lib
open Go.Proofs.YtpfmnkpmidjfjaaGreatDoorW.PrintWords
set_option linter.unusedVariables false
set_option linter.unusedSimpArgs false
def B.rmail (m : B.Mail) : Bool := B.sole m && decide (m.body.length ≤ 4096)
theorem rmail_right (m : B.Mail) : B.right m = (B.rmail m && (!m.quiet && (m.helo.isEmpty && decide (m.tm = 0)))) := by
 unfold B.right B.rmail
 rw [Bool.and_assoc]
theorem in_any (a lo hi : Int) (w : World) : Calls Tryz.prog 45 #[.int .i64 a, .int .i64 lo, .int .i64 hi] w fun e w' => e = .returned (.bool (decide (lo ≤ a ∧ a ≤ hi))) ∧ Below w.heap.size w w' :=
 (PBundleExact.wherryref11_in.calls a lo hi _ w (in_f a lo hi)).mono (fun e w' h => ⟨h.1, h.2.below⟩)
theorem allT_take {α : Type} {l : List α} (f : α → Bool) {n : Nat} (hn : n < l.length) (d : α) (h : (l.take n).all f = true) : (l.take (n + 1)).all f = f (l.getD n d) := by
 rw [List.take_add_one, List.all_append, h, Bool.true_and, List.getElem?_eq_getElem hn, List.getD_eq_getElem?_getD, List.getElem?_eq_getElem hn]
 simp
theorem allT_false {α : Type} {l : List α} (f : α → Bool) {n : Nat} (hn : n < l.length) (d : α) (h : f (l.getD n d) = false) : l.all f = false := by
 rw [List.all_eq_false]
 exact ⟨l.getD n d, getD_mem l n hn d, by rw [h]; decide⟩
set_option maxRecDepth 100000 in
set_option maxHeartbeats 4000000 in
theorem rmail_any (m : B.Mail) (A : Option Addr) (c : Nat) (A2 : Option Addr) (c2 : Nat) (w : World) (h : Ml w m A c A2 c2) (hf : B.Fit m) :
  Calls Tryz.prog 46 #[.agg #[.bool m.frm.null, .string (str m.frm.loc), .string (str m.frm.dom), .slice A m.to.length c, .slice A2 m.body.length c2, .bool m.quiet, .string (str m.helo), .int .i64 m.tm]] w fun e w' => e = .returned (.bool (B.rmail m)) ∧ Below w.heap.size w w' := by
 obtain ⟨T, hT⟩ : ∃ T, T = B.rmail m := ⟨_, rfl⟩
 rw [← hT]
 have hT2 : T = (V.check m.frm && (decide (1 ≤ (m.to.length : Int) ∧ (m.to.length : Int) ≤ 8) && (B.body m.body && (decide (m.body.length ≤ 4096) && m.to.all (fun p => V.check p && !p.null))))) := by
  rw [hT]
  unfold B.rmail B.sole
  have e : decide (1 ≤ (m.to.length : Int) ∧ (m.to.length : Int) ≤ 8) = (decide (1 ≤ m.to.length) && decide (m.to.length ≤ 8)) := by
   rw [← Bool.decide_and]
   exact decide_eq_decide.2 (by omega)
  rw [e]
  cases V.check m.frm <;> cases decide (1 ≤ m.to.length) <;> cases decide (m.to.length ≤ 8) <;> cases B.body m.body <;> cases decide (m.body.length ≤ 4096) <;> cases m.to.all (fun p => V.check p && !p.null) <;> rfl
 obtain ⟨w0, hw0⟩ : ∃ w0, w0 = w.alloc (.cells #[.bool m.frm.null, .string (str m.frm.loc), .string (str m.frm.dom), .slice A m.to.length c, .slice A2 m.body.length c2, .bool m.quiet, .string (str m.helo), .int .i64 m.tm] 46) := ⟨_, rfl⟩
 have HWB := Aside0.mk (show Below w.heap.size w w0 by rw [hw0]; exact (Below.refl _ _).alloc (Nat.le_refl _) _)
 have HR := Aside0.mk (show w0.heap[w.heap.size]? = some (.cells #[.bool m.frm.null, .string (str m.frm.loc), .string (str m.frm.dom), .slice A m.to.length c, .slice A2 m.body.length c2, .bool m.quiet, .string (str m.helo), .int .i64 m.tm] 46 (0, 0)) by rw [hw0]; exact heap_alloc_new _ _)
 have HW0 := Aside0.mk hw0
 have HW := Aside0.mk (Below.refl w0.heap.size w0)
 have HM := Aside0.mk (h.on HWB.out)
 have HF := Aside0.mk hf
 have hp : ∀ W, Below w0.heap.size w0 W → Calls Tryz.prog 74 #[.agg #[.bool m.frm.null, .string (str m.frm.loc), .string (str m.frm.dom)]] W fun e w' => e = .returned (.bool (V.check m.frm)) ∧ Below W.heap.size W w' := fun W hW => rpath_any m.frm W hf.frm
 have hi : ∀ W, Below w0.heap.size w0 W → Calls Tryz.prog 45 #[.int .i64 (m.to.length : Int), .int .i64 1, .int .i64 8] W fun e w' => e = .returned (.bool (decide (1 ≤ (m.to.length : Int) ∧ (m.to.length : Int) ≤ 8))) ∧ Below W.heap.size W w' := fun W hW => in_any _ _ _ W
 have hbd : ∀ W, Below w0.heap.size w0 W → Calls Tryz.prog 75 #[.slice A2 m.body.length c2] W fun e w' => e = .returned (.bool (B.body m.body)) ∧ Below W.heap.size W w' := fun W hW => rbody_any (HM.out.body.on hW) (by have := hf.body; omega)
 have hbl := hf.body
 generalize hC1 : V.check m.frm = C1 at hT2 hp
 generalize hC2 : decide (1 ≤ (m.to.length : Int) ∧ (m.to.length : Int) ≤ 8) = C2 at hT2 hi
 generalize hC3 : B.body m.body = C3 at hT2 hbd
 have HP := Aside0.mk hp
 have HI := Aside0.mk hi
 have HBD := Aside0.mk hbd
 clear hp hi hbd hT h hf hw0
 rcases and5b C1 C2 C3 (decide (m.body.length ≤ 4096)) true with h5 | ⟨h5, h6⟩ | ⟨h5, h6, h7⟩ | ⟨h5, h6, h7, h8⟩ | ⟨h5, h6, h7, h8⟩
 ·subst h5
  have HT := Aside0.mk (show T = false by rw [hT2]; rfl)
  clear hT2 hC1 hC2 hC3
  go_enter Tryz.func46, Tryz.ntmps46
  go_upto_region 1 with (fail)
  rw [← HW0.out]
  obtain ⟨⟨d0, d1, d2, d3, d4, d5, d6, d7⟩, y0, y1, y2, y3, y4, y5, y6, y7⟩ := cells8 HR.out
  go_wp2_with (first | (go_at_call 74; (with_reducible refine Calls.mono (HP.out _ HW.out) ?_); rintro e wq ⟨rfl, h⟩; have hwN := (HW.out.trans (h.mono HW.out.size) : Below w0.heap.size w0 wq); clear HW h; have HW := Aside0.mk hwN; (try clear d0 d1 d2 d3 d4 d5 d6 d7 y0 y1 y2 y3 y4 y5 y6 y7); obtain ⟨⟨d0, d1, d2, d3, d4, d5, d6, d7⟩, y0, y1, y2, y3, y4, y5, y6, y7⟩ := cells8 (row_on hwN HR.out); clear hwN) | (go_at_call 45; (with_reducible refine Calls.mono (HI.out _ HW.out) ?_); rintro e wq ⟨rfl, h⟩; have hwN := (HW.out.trans (h.mono HW.out.size) : Below w0.heap.size w0 wq); clear HW h; have HW := Aside0.mk hwN; (try clear d0 d1 d2 d3 d4 d5 d6 d7 y0 y1 y2 y3 y4 y5 y6 y7); obtain ⟨⟨d0, d1, d2, d3, d4, d5, d6, d7⟩, y0, y1, y2, y3, y4, y5, y6, y7⟩ := cells8 (row_on hwN HR.out); clear hwN) | (go_at_call 75; (with_reducible refine Calls.mono (HBD.out _ HW.out) ?_); rintro e wq ⟨rfl, h⟩; have hwN := (HW.out.trans (h.mono HW.out.size) : Below w0.heap.size w0 wq); clear HW h; have HW := Aside0.mk hwN; (try clear d0 d1 d2 d3 d4 d5 d6 d7 y0 y1 y2 y3 y4 y5 y6 y7); obtain ⟨⟨d0, d1, d2, d3, d4, d5, d6, d7⟩, y0, y1, y2, y3, y4, y5, y6, y7⟩ := cells8 (row_on hwN HR.out); clear hwN))
  go_ret
  exact ⟨by rw [HT.out]; rfl, HWB.out.trans (HW.out.mono HWB.out.size)⟩
 ·subst h5; subst h6
  have HT := Aside0.mk (show T = false by rw [hT2]; rfl)
  clear hT2 hC1 hC2 hC3
  go_enter Tryz.func46, Tryz.ntmps46
  go_upto_region 1 with (fail)
  rw [← HW0.out]
  obtain ⟨⟨d0, d1, d2, d3, d4, d5, d6, d7⟩, y0, y1, y2, y3, y4, y5, y6, y7⟩ := cells8 HR.out
  go_wp2_with (first | (go_at_call 74; (with_reducible refine Calls.mono (HP.out _ HW.out) ?_); rintro e wq ⟨rfl, h⟩; have hwN := (HW.out.trans (h.mono HW.out.size) : Below w0.heap.size w0 wq); clear HW h; have HW := Aside0.mk hwN; (try clear d0 d1 d2 d3 d4 d5 d6 d7 y0 y1 y2 y3 y4 y5 y6 y7); obtain ⟨⟨d0, d1, d2, d3, d4, d5, d6, d7⟩, y0, y1, y2, y3, y4, y5, y6, y7⟩ := cells8 (row_on hwN HR.out); clear hwN) | (go_at_call 45; (with_reducible refine Calls.mono (HI.out _ HW.out) ?_); rintro e wq ⟨rfl, h⟩; have hwN := (HW.out.trans (h.mono HW.out.size) : Below w0.heap.size w0 wq); clear HW h; have HW := Aside0.mk hwN; (try clear d0 d1 d2 d3 d4 d5 d6 d7 y0 y1 y2 y3 y4 y5 y6 y7); obtain ⟨⟨d0, d1, d2, d3, d4, d5, d6, d7⟩, y0, y1, y2, y3, y4, y5, y6, y7⟩ := cells8 (row_on hwN HR.out); clear hwN) | (go_at_call 75; (with_reducible refine Calls.mono (HBD.out _ HW.out) ?_); rintro e wq ⟨rfl, h⟩; have hwN := (HW.out.trans (h.mono HW.out.size) : Below w0.heap.size w0 wq); clear HW h; have HW := Aside0.mk hwN; (try clear d0 d1 d2 d3 d4 d5 d6 d7 y0 y1 y2 y3 y4 y5 y6 y7); obtain ⟨⟨d0, d1, d2, d3, d4, d5, d6, d7⟩, y0, y1, y2, y3, y4, y5, y6, y7⟩ := cells8 (row_on hwN HR.out); clear hwN))
  go_ret
  exact ⟨by rw [HT.out]; rfl, HWB.out.trans (HW.out.mono HWB.out.size)⟩
 ·subst h5; subst h6; subst h7
  have HT := Aside0.mk (show T = false by rw [hT2]; rfl)
  clear hT2 hC1 hC2 hC3
  go_enter Tryz.func46, Tryz.ntmps46
  go_upto_region 1 with (fail)
  rw [← HW0.out]
  obtain ⟨⟨d0, d1, d2, d3, d4, d5, d6, d7⟩, y0, y1, y2, y3, y4, y5, y6, y7⟩ := cells8 HR.out
  go_wp2_with (first | (go_at_call 74; (with_reducible refine Calls.mono (HP.out _ HW.out) ?_); rintro e wq ⟨rfl, h⟩; have hwN := (HW.out.trans (h.mono HW.out.size) : Below w0.heap.size w0 wq); clear HW h; have HW := Aside0.mk hwN; (try clear d0 d1 d2 d3 d4 d5 d6 d7 y0 y1 y2 y3 y4 y5 y6 y7); obtain ⟨⟨d0, d1, d2, d3, d4, d5, d6, d7⟩, y0, y1, y2, y3, y4, y5, y6, y7⟩ := cells8 (row_on hwN HR.out); clear hwN) | (go_at_call 45; (with_reducible refine Calls.mono (HI.out _ HW.out) ?_); rintro e wq ⟨rfl, h⟩; have hwN := (HW.out.trans (h.mono HW.out.size) : Below w0.heap.size w0 wq); clear HW h; have HW := Aside0.mk hwN; (try clear d0 d1 d2 d3 d4 d5 d6 d7 y0 y1 y2 y3 y4 y5 y6 y7); obtain ⟨⟨d0, d1, d2, d3, d4, d5, d6, d7⟩, y0, y1, y2, y3, y4, y5, y6, y7⟩ := cells8 (row_on hwN HR.out); clear hwN) | (go_at_call 75; (with_reducible refine Calls.mono (HBD.out _ HW.out) ?_); rintro e wq ⟨rfl, h⟩; have hwN := (HW.out.trans (h.mono HW.out.size) : Below w0.heap.size w0 wq); clear HW h; have HW := Aside0.mk hwN; (try clear d0 d1 d2 d3 d4 d5 d6 d7 y0 y1 y2 y3 y4 y5 y6 y7); obtain ⟨⟨d0, d1, d2, d3, d4, d5, d6, d7⟩, y0, y1, y2, y3, y4, y5, y6, y7⟩ := cells8 (row_on hwN HR.out); clear hwN))
  go_ret
  exact ⟨by rw [HT.out]; rfl, HWB.out.trans (HW.out.mono HWB.out.size)⟩
 ·subst h5; subst h6; subst h7
  have h8i : 4096 < (m.body.length : Int) := by have := of_decide_eq_false h8; omega
  have HT := Aside0.mk (show T = false by rw [hT2, h8]; rfl)
  clear hT2 hC1 hC2 hC3
  go_enter Tryz.func46, Tryz.ntmps46
  go_upto_region 1 with (fail)
  rw [← HW0.out]
  obtain ⟨⟨d0, d1, d2, d3, d4, d5, d6, d7⟩, y0, y1, y2, y3, y4, y5, y6, y7⟩ := cells8 HR.out
  go_wp2_with (first | (go_at_call 74; (with_reducible refine Calls.mono (HP.out _ HW.out) ?_); rintro e wq ⟨rfl, h⟩; have hwN := (HW.out.trans (h.mono HW.out.size) : Below w0.heap.size w0 wq); clear HW h; have HW := Aside0.mk hwN; (try clear d0 d1 d2 d3 d4 d5 d6 d7 y0 y1 y2 y3 y4 y5 y6 y7); obtain ⟨⟨d0, d1, d2, d3, d4, d5, d6, d7⟩, y0, y1, y2, y3, y4, y5, y6, y7⟩ := cells8 (row_on hwN HR.out); clear hwN) | (go_at_call 45; (with_reducible refine Calls.mono (HI.out _ HW.out) ?_); rintro e wq ⟨rfl, h⟩; have hwN := (HW.out.trans (h.mono HW.out.size) : Below w0.heap.size w0 wq); clear HW h; have HW := Aside0.mk hwN; (try clear d0 d1 d2 d3 d4 d5 d6 d7 y0 y1 y2 y3 y4 y5 y6 y7); obtain ⟨⟨d0, d1, d2, d3, d4, d5, d6, d7⟩, y0, y1, y2, y3, y4, y5, y6, y7⟩ := cells8 (row_on hwN HR.out); clear hwN) | (go_at_call 75; (with_reducible refine Calls.mono (HBD.out _ HW.out) ?_); rintro e wq ⟨rfl, h⟩; have hwN := (HW.out.trans (h.mono HW.out.size) : Below w0.heap.size w0 wq); clear HW h; have HW := Aside0.mk hwN; (try clear d0 d1 d2 d3 d4 d5 d6 d7 y0 y1 y2 y3 y4 y5 y6 y7); obtain ⟨⟨d0, d1, d2, d3, d4, d5, d6, d7⟩, y0, y1, y2, y3, y4, y5, y6, y7⟩ := cells8 (row_on hwN HR.out); clear hwN))
  go_ret
  exact ⟨by rw [HT.out]; rfl, HWB.out.trans (HW.out.mono HWB.out.size)⟩
 ·subst h5; subst h6; subst h7
  have h8i : (m.body.length : Int) ≤ 4096 := by have := of_decide_eq_true h8; omega
  have hl8 : m.to.length ≤ 8 := by have := of_decide_eq_true hC2; omega
  have HT := Aside0.mk (show T = m.to.all (fun p => V.check p && !p.null) by rw [hT2, h8]; rfl)
  clear hT2 hC1 hC2 hC3 h8
  go_enter Tryz.func46, Tryz.ntmps46
  go_upto_region 1 with (fail)
  rw [← HW0.out]
  obtain ⟨⟨d0, d1, d2, d3, d4, d5, d6, d7⟩, y0, y1, y2, y3, y4, y5, y6, y7⟩ := cells8 HR.out
  go_wp2_with (first | (go_at_call 74; (with_reducible refine Calls.mono (HP.out _ HW.out) ?_); rintro e wq ⟨rfl, h⟩; have hwN := (HW.out.trans (h.mono HW.out.size) : Below w0.heap.size w0 wq); clear HW h; have HW := Aside0.mk hwN; (try clear d0 d1 d2 d3 d4 d5 d6 d7 y0 y1 y2 y3 y4 y5 y6 y7); obtain ⟨⟨d0, d1, d2, d3, d4, d5, d6, d7⟩, y0, y1, y2, y3, y4, y5, y6, y7⟩ := cells8 (row_on hwN HR.out); clear hwN) | (go_at_call 45; (with_reducible refine Calls.mono (HI.out _ HW.out) ?_); rintro e wq ⟨rfl, h⟩; have hwN := (HW.out.trans (h.mono HW.out.size) : Below w0.heap.size w0 wq); clear HW h; have HW := Aside0.mk hwN; (try clear d0 d1 d2 d3 d4 d5 d6 d7 y0 y1 y2 y3 y4 y5 y6 y7); obtain ⟨⟨d0, d1, d2, d3, d4, d5, d6, d7⟩, y0, y1, y2, y3, y4, y5, y6, y7⟩ := cells8 (row_on hwN HR.out); clear hwN) | (go_at_call 75; (with_reducible refine Calls.mono (HBD.out _ HW.out) ?_); rintro e wq ⟨rfl, h⟩; have hwN := (HW.out.trans (h.mono HW.out.size) : Below w0.heap.size w0 wq); clear HW h; have HW := Aside0.mk hwN; (try clear d0 d1 d2 d3 d4 d5 d6 d7 y0 y1 y2 y3 y4 y5 y6 y7); obtain ⟨⟨d0, d1, d2, d3, d4, d5, d6, d7⟩, y0, y1, y2, y3, y4, y5, y6, y7⟩ := cells8 (row_on hwN HR.out); clear hwN))
  obtain ⟨wa, rfl⟩ : ∃ wz : World, wz = wq := ⟨_, rfl⟩
  have HRa := Aside0.mk (row_on HW.out HR.out)
  have HWa := Aside0.mk (HWB.out.trans (HW.out.mono HWB.out.size))
  have HCa := Aside0.mk (Kd.C_below HM.out.tos HW.out)
  clear HW d0 d1 d2 d3 d4 d5 d6 d7 y0 y1 y2 y3 y4 y5 y6 y7
  go_loopg [3] m.to.length (fun gf v3 wr => ∃ (n : Nat), v3 = .int .i64 n ∧ n ≤ m.to.length ∧ gf + n = m.to.length ∧ Aside0 ((m.to.take n).all (fun p => V.check p && !p.null) = true ∧ Below wa.heap.size wa wr))
  case atStart => exact ⟨0, rfl, by omega, by omega, ⟨rfl, Below.refl _ _⟩⟩
  case round =>
   obtain ⟨n, rfl, hn2, hg, H⟩ := hrel
   obtain ⟨wx, rfl⟩ : ∃ wz : World, wz = wr := ⟨_, rfl⟩
   have HRx := Aside0.mk (row_on H.out.2 HRa.out)
   obtain ⟨⟨d0, d1, d2, d3, d4, d5, d6, d7⟩, y0, y1, y2, y3, y4, y5, y6, y7⟩ := cells8 HRx.out
   have HW := Aside0.mk (Below.refl wx.heap.size wx)
   by_cases hlt : n < m.to.length
   ·obtain ⟨p, hpx⟩ : ∃ p, p = m.to.getD n V.noPath := ⟨_, rfl⟩
    obtain ⟨ad, rfl, q0, q1, q2⟩ := path_at HCa.out n hlt p hpx
    have hlt' : (n : Int) < (m.to.length : Int) := by omega
    have h0 : (0 : Int) ≤ (n : Int) := by omega
    have hfp : B.fitP p := HF.out.tos _ (by rw [hpx]; exact getD_mem m.to n hlt _)
    have e0 := cell_up H.out.2 q0
    have e1 := cell_up H.out.2 q1
    have e2 := cell_up H.out.2 q2
    have hpp := rpath_any p wx hfp
    have hall := allT_take (fun p => V.check p && !p.null) hlt V.noPath H.out.1
    have hno := allT_false (l := m.to) (fun p => V.check p && !p.null) hlt V.noPath
    rw [← hpx] at hall hno
    cases hc : V.check p with
    | false =>
     rw [hc] at hpp hno
     have HPP := Aside0.mk hpp
     have HTF := Aside0.mk (HT.out.trans (hno rfl))
     clear hpp hc hfp q0 q1 q2 hpx hlt hall hno
     go_wp2_with (first | (go_at_call 74; (with_reducible refine Calls.mono (HPP.out) ?_); rintro e wq ⟨rfl, h⟩; have hwN := (HW.out.trans (h.mono HW.out.size) : Below wx.heap.size wx wq); clear HW h; have HW := Aside0.mk hwN; (try clear d0 d1 d2 d3 d4 d5 d6 d7 y0 y1 y2 y3 y4 y5 y6 y7); obtain ⟨⟨d0, d1, d2, d3, d4, d5, d6, d7⟩, y0, y1, y2, y3, y4, y5, y6, y7⟩ := cells8 (row_on hwN HRx.out); clear hwN))
     go_ret
     exact ⟨by rw [HTF.out]; rfl, HWa.out.trans ((H.out.2.trans (HW.out.mono H.out.2.size)).mono HWa.out.size)⟩
    | true =>
     cases hnl : p.null with
     | true =>
      rw [hc, hnl] at hno
      rw [hc, hnl] at hpp
      rw [hnl] at e0
      have HPP := Aside0.mk hpp
      have HTF := Aside0.mk (HT.out.trans (hno rfl))
      have HE0 := Aside0.mk e0
      clear hpp hc hfp q0 q1 q2 hpx hlt hall hno hnl
      go_wp2_with (first | (go_at_call 74; (with_reducible refine Calls.mono (HPP.out) ?_); rintro e wq ⟨rfl, h⟩; have hwN := (HW.out.trans (h.mono HW.out.size) : Below wx.heap.size wx wq); clear HW h; have HW := Aside0.mk hwN; (try clear d0 d1 d2 d3 d4 d5 d6 d7 y0 y1 y2 y3 y4 y5 y6 y7); obtain ⟨⟨d0, d1, d2, d3, d4, d5, d6, d7⟩, y0, y1, y2, y3, y4, y5, y6, y7⟩ := cells8 (row_on hwN HRx.out); (try clear e0); have e0 := cell_up hwN HE0.out; clear hwN))
      go_ret
      exact ⟨by rw [HTF.out]; rfl, HWa.out.trans ((H.out.2.trans (HW.out.mono H.out.2.size)).mono HWa.out.size)⟩
     | false =>
      rw [hc, hnl] at hall
      rw [hc, hnl] at hpp
      rw [hnl] at e0
      have HPP := Aside0.mk hpp
      have HALL := Aside0.mk hall
      have HE0 := Aside0.mk e0
      clear hpp hc hfp q0 q1 q2 hpx hlt hall hno hnl
      go_wp2_with (first | (go_at_call 74; (with_reducible refine Calls.mono (HPP.out) ?_); rintro e wq ⟨rfl, h⟩; have hwN := (HW.out.trans (h.mono HW.out.size) : Below wx.heap.size wx wq); clear HW h; have HW := Aside0.mk hwN; (try clear d0 d1 d2 d3 d4 d5 d6 d7 y0 y1 y2 y3 y4 y5 y6 y7); obtain ⟨⟨d0, d1, d2, d3, d4, d5, d6, d7⟩, y0, y1, y2, y3, y4, y5, y6, y7⟩ := cells8 (row_on hwN HRx.out); (try clear e0); have e0 := cell_up hwN HE0.out; clear hwN))
      go_roundg (gk - 1)
      case measure => omega
      case rel => exact ⟨n + 1, by go_num, by omega, by omega, ⟨HALL.out, H.out.2.trans (HW.out.mono H.out.2.size)⟩⟩
   ·have hne : n = m.to.length := by omega
    have t1 : decide ((n : Int) < (m.to.length : Int)) = false := by simp; omega
    have t2 : decide (n < m.to.length) = false := by simp; omega
    have HTT := Aside0.mk (show T = true by
     have := H.out.1
     rw [hne, List.take_length] at this
     rw [HT.out, this])
    clear hne hlt
    go_wp2_with (fail)
    go_ret
    exact ⟨by rw [HTT.out]; rfl, HWa.out.trans (H.out.2.mono HWa.out.size)⟩
set_option maxRecDepth 100000 in
set_option maxHeartbeats 4000000 in
theorem rbundle_any (b : B.Bundle) (A : Option Addr) (c : Nat) (w : World) (h : Bn w b A c) (hf : B.FitB b) :
  Calls Tryz.prog 20 #[.agg #[.int .i64 b.origin, .int .i64 b.number, .slice A b.mails.length c]] w fun e w' => e = .returned (.bool (B.check b)) ∧ Below w.heap.size w w' := by
 obtain ⟨T, hT⟩ : ∃ T, T = B.check b := ⟨_, rfl⟩
 rw [← hT]
 have hT2 : T = (decide (0 ≤ b.origin ∧ b.origin ≤ 1) && (decide (1 ≤ b.number ∧ b.number ≤ 65535) && (decide (1 ≤ (b.mails.length : Int) ∧ (b.mails.length : Int) ≤ 4) && b.mails.all B.right))) := by
  rw [hT]
  unfold B.check
  have e1 : decide (0 ≤ b.origin ∧ b.origin ≤ 1) = (decide (0 ≤ b.origin) && decide (b.origin ≤ 1)) := Bool.decide_and _ _
  have e2 : decide (1 ≤ b.number ∧ b.number ≤ 65535) = (decide (1 ≤ b.number) && decide (b.number ≤ 65535)) := Bool.decide_and _ _
  have e3 : decide (1 ≤ (b.mails.length : Int) ∧ (b.mails.length : Int) ≤ 4) = (decide (1 ≤ b.mails.length) && decide (b.mails.length ≤ 4)) := by
   rw [← Bool.decide_and]
   exact decide_eq_decide.2 (by omega)
  rw [e1, e2, e3]
  simp only [Bool.and_assoc]
 obtain ⟨w0, hw0⟩ : ∃ w0, w0 = w.alloc (.cells #[.int .i64 b.origin, .int .i64 b.number, .slice A b.mails.length c] 24) := ⟨_, rfl⟩
 have HWB := Aside0.mk (show Below w.heap.size w w0 by rw [hw0]; exact (Below.refl _ _).alloc (Nat.le_refl _) _)
 have HR := Aside0.mk (show w0.heap[w.heap.size]? = some (.cells #[.int .i64 b.origin, .int .i64 b.number, .slice A b.mails.length c] 24 (0, 0)) by rw [hw0]; exact heap_alloc_new _ _)
 have HW0 := Aside0.mk hw0
 have HW := Aside0.mk (Below.refl w0.heap.size w0)
 have HB := Aside0.mk (h.on HWB.out)
 have HF := Aside0.mk hf
 have hi1 : ∀ W, Calls Tryz.prog 45 #[.int .i64 b.origin, .int .i64 0, .int .i64 1] W fun e w' => e = .returned (.bool (decide (0 ≤ b.origin ∧ b.origin ≤ 1))) ∧ Below W.heap.size W w' := fun W => in_any _ _ _ W
 have hi2 : ∀ W, Calls Tryz.prog 45 #[.int .i64 b.number, .int .i64 1, .int .i64 65535] W fun e w' => e = .returned (.bool (decide (1 ≤ b.number ∧ b.number ≤ 65535))) ∧ Below W.heap.size W w' := fun W => in_any _ _ _ W
 have hi3 : ∀ W, Calls Tryz.prog 45 #[.int .i64 (b.mails.length : Int), .int .i64 1, .int .i64 4] W fun e w' => e = .returned (.bool (decide (1 ≤ (b.mails.length : Int) ∧ (b.mails.length : Int) ≤ 4))) ∧ Below W.heap.size W w' := fun W => in_any _ _ _ W
 generalize hC1 : decide (0 ≤ b.origin ∧ b.origin ≤ 1) = C1 at hT2 hi1
 generalize hC2 : decide (1 ≤ b.number ∧ b.number ≤ 65535) = C2 at hT2 hi2
 generalize hC3 : decide (1 ≤ (b.mails.length : Int) ∧ (b.mails.length : Int) ≤ 4) = C3 at hT2 hi3
 have HI1 := Aside0.mk hi1
 have HI2 := Aside0.mk hi2
 have HI3 := Aside0.mk hi3
 clear hi1 hi2 hi3 hT h hf hw0
 rcases and5b C1 C2 C3 true true with h5 | ⟨h5, h6⟩ | ⟨h5, h6, h7⟩ | ⟨h5, h6, h7, h8⟩ | ⟨h5, h6, h7, h8⟩
 ·subst h5
  have HT := Aside0.mk (show T = false by rw [hT2]; rfl)
  clear hT2 hC1 hC2 hC3
  go_enter Tryz.func20, Tryz.ntmps20
  go_upto_region 1 with (fail)
  rw [← HW0.out]
  obtain ⟨b0, b1, b2, g0, g1, g2⟩ := cells3 HR.out
  go_wp2_with (first | (go_at_call 45; (with_reducible refine Calls.mono (HI1.out _) ?_); rintro e wq ⟨rfl, h⟩; have hwN := (HW.out.trans (h.mono HW.out.size) : Below w0.heap.size w0 wq); clear HW h; have HW := Aside0.mk hwN; (try clear b0 b1 b2 g0 g1 g2); obtain ⟨b0, b1, b2, g0, g1, g2⟩ := cells3 (row_on hwN HR.out); clear hwN) | (go_at_call 45; (with_reducible refine Calls.mono (HI2.out _) ?_); rintro e wq ⟨rfl, h⟩; have hwN := (HW.out.trans (h.mono HW.out.size) : Below w0.heap.size w0 wq); clear HW h; have HW := Aside0.mk hwN; (try clear b0 b1 b2 g0 g1 g2); obtain ⟨b0, b1, b2, g0, g1, g2⟩ := cells3 (row_on hwN HR.out); clear hwN) | (go_at_call 45; (with_reducible refine Calls.mono (HI3.out _) ?_); rintro e wq ⟨rfl, h⟩; have hwN := (HW.out.trans (h.mono HW.out.size) : Below w0.heap.size w0 wq); clear HW h; have HW := Aside0.mk hwN; (try clear b0 b1 b2 g0 g1 g2); obtain ⟨b0, b1, b2, g0, g1, g2⟩ := cells3 (row_on hwN HR.out); clear hwN))
  go_ret
  exact ⟨by rw [HT.out]; rfl, HWB.out.trans (HW.out.mono HWB.out.size)⟩
 ·subst h5; subst h6
  have HT := Aside0.mk (show T = false by rw [hT2]; rfl)
  clear hT2 hC1 hC2 hC3
  go_enter Tryz.func20, Tryz.ntmps20
  go_upto_region 1 with (fail)
  rw [← HW0.out]
  obtain ⟨b0, b1, b2, g0, g1, g2⟩ := cells3 HR.out
  go_wp2_with (first | (go_at_call 45; (with_reducible refine Calls.mono (HI1.out _) ?_); rintro e wq ⟨rfl, h⟩; have hwN := (HW.out.trans (h.mono HW.out.size) : Below w0.heap.size w0 wq); clear HW h; have HW := Aside0.mk hwN; (try clear b0 b1 b2 g0 g1 g2); obtain ⟨b0, b1, b2, g0, g1, g2⟩ := cells3 (row_on hwN HR.out); clear hwN) | (go_at_call 45; (with_reducible refine Calls.mono (HI2.out _) ?_); rintro e wq ⟨rfl, h⟩; have hwN := (HW.out.trans (h.mono HW.out.size) : Below w0.heap.size w0 wq); clear HW h; have HW := Aside0.mk hwN; (try clear b0 b1 b2 g0 g1 g2); obtain ⟨b0, b1, b2, g0, g1, g2⟩ := cells3 (row_on hwN HR.out); clear hwN) | (go_at_call 45; (with_reducible refine Calls.mono (HI3.out _) ?_); rintro e wq ⟨rfl, h⟩; have hwN := (HW.out.trans (h.mono HW.out.size) : Below w0.heap.size w0 wq); clear HW h; have HW := Aside0.mk hwN; (try clear b0 b1 b2 g0 g1 g2); obtain ⟨b0, b1, b2, g0, g1, g2⟩ := cells3 (row_on hwN HR.out); clear hwN))
  go_ret
  exact ⟨by rw [HT.out]; rfl, HWB.out.trans (HW.out.mono HWB.out.size)⟩
 ·subst h5; subst h6; subst h7
  have HT := Aside0.mk (show T = false by rw [hT2]; rfl)
  clear hT2 hC1 hC2 hC3
  go_enter Tryz.func20, Tryz.ntmps20
  go_upto_region 1 with (fail)
  rw [← HW0.out]
  obtain ⟨b0, b1, b2, g0, g1, g2⟩ := cells3 HR.out
  go_wp2_with (first | (go_at_call 45; (with_reducible refine Calls.mono (HI1.out _) ?_); rintro e wq ⟨rfl, h⟩; have hwN := (HW.out.trans (h.mono HW.out.size) : Below w0.heap.size w0 wq); clear HW h; have HW := Aside0.mk hwN; (try clear b0 b1 b2 g0 g1 g2); obtain ⟨b0, b1, b2, g0, g1, g2⟩ := cells3 (row_on hwN HR.out); clear hwN) | (go_at_call 45; (with_reducible refine Calls.mono (HI2.out _) ?_); rintro e wq ⟨rfl, h⟩; have hwN := (HW.out.trans (h.mono HW.out.size) : Below w0.heap.size w0 wq); clear HW h; have HW := Aside0.mk hwN; (try clear b0 b1 b2 g0 g1 g2); obtain ⟨b0, b1, b2, g0, g1, g2⟩ := cells3 (row_on hwN HR.out); clear hwN) | (go_at_call 45; (with_reducible refine Calls.mono (HI3.out _) ?_); rintro e wq ⟨rfl, h⟩; have hwN := (HW.out.trans (h.mono HW.out.size) : Below w0.heap.size w0 wq); clear HW h; have HW := Aside0.mk hwN; (try clear b0 b1 b2 g0 g1 g2); obtain ⟨b0, b1, b2, g0, g1, g2⟩ := cells3 (row_on hwN HR.out); clear hwN))
  go_ret
  exact ⟨by rw [HT.out]; rfl, HWB.out.trans (HW.out.mono HWB.out.size)⟩
 ·cases h8
 ·subst h5; subst h6; subst h7
  have HT := Aside0.mk (show T = b.mails.all B.right by rw [hT2]; rfl)
  have hl4 : b.mails.length ≤ 4 := by have := of_decide_eq_true hC3; omega
  clear hT2 hC1 hC2 hC3 h8
  go_enter Tryz.func20, Tryz.ntmps20
  go_upto_region 1 with (fail)
  rw [← HW0.out]
  obtain ⟨b0, b1, b2, g0, g1, g2⟩ := cells3 HR.out
  go_wp2_with (first | (go_at_call 45; (with_reducible refine Calls.mono (HI1.out _) ?_); rintro e wq ⟨rfl, h⟩; have hwN := (HW.out.trans (h.mono HW.out.size) : Below w0.heap.size w0 wq); clear HW h; have HW := Aside0.mk hwN; (try clear b0 b1 b2 g0 g1 g2); obtain ⟨b0, b1, b2, g0, g1, g2⟩ := cells3 (row_on hwN HR.out); clear hwN) | (go_at_call 45; (with_reducible refine Calls.mono (HI2.out _) ?_); rintro e wq ⟨rfl, h⟩; have hwN := (HW.out.trans (h.mono HW.out.size) : Below w0.heap.size w0 wq); clear HW h; have HW := Aside0.mk hwN; (try clear b0 b1 b2 g0 g1 g2); obtain ⟨b0, b1, b2, g0, g1, g2⟩ := cells3 (row_on hwN HR.out); clear hwN) | (go_at_call 45; (with_reducible refine Calls.mono (HI3.out _) ?_); rintro e wq ⟨rfl, h⟩; have hwN := (HW.out.trans (h.mono HW.out.size) : Below w0.heap.size w0 wq); clear HW h; have HW := Aside0.mk hwN; (try clear b0 b1 b2 g0 g1 g2); obtain ⟨b0, b1, b2, g0, g1, g2⟩ := cells3 (row_on hwN HR.out); clear hwN))
  obtain ⟨wa, rfl⟩ : ∃ wz : World, wz = wq := ⟨_, rfl⟩
  have HRa := Aside0.mk (row_on HW.out HR.out)
  have HWa := Aside0.mk (HWB.out.trans (HW.out.mono HWB.out.size))
  have HBa := Aside0.mk (HB.out.on HW.out)
  clear HW b0 b1 b2 g0 g1 g2
  go_loopg [3] b.mails.length (fun gf v3 wr => ∃ (n : Nat), v3 = .int .i64 n ∧ n ≤ b.mails.length ∧ gf + n = b.mails.length ∧ Aside0 ((b.mails.take n).all B.right = true ∧ Below wa.heap.size wa wr))
  case atStart => exact ⟨0, rfl, by omega, by omega, ⟨rfl, Below.refl _ _⟩⟩
  case round =>
   obtain ⟨n, rfl, hn2, hg, H⟩ := hrel
   obtain ⟨wx, rfl⟩ : ∃ wz : World, wz = wr := ⟨_, rfl⟩
   have HRx := Aside0.mk (row_on H.out.2 HRa.out)
   obtain ⟨b0, b1, b2, g0, g1, g2⟩ := cells3 HRx.out
   by_cases hlt : n < b.mails.length
   ·obtain ⟨x, hx⟩ : ∃ x, x = b.mails.getD n B.noMail := ⟨_, rfl⟩
    obtain ⟨ad, A1, c1, A3, c3, rfl, hm, hl⟩ := mail_at HBa.out.rd n hlt x hx
    obtain ⟨q0, q1, q2, q3, q4, q5, q6, q7⟩ := hm.on H.out.2
    have hlt' : (n : Int) < (b.mails.length : Int) := by omega
    have h0 : (0 : Int) ≤ (n : Int) := by omega
    have hfx : B.Fit x := HF.out.ms _ (by rw [hx]; exact getD_mem b.mails n hlt _)
    have hall := allT_take B.right hlt B.noMail H.out.1
    have hno := allT_false (l := b.mails) B.right hlt B.noMail
    rw [← hx] at hall hno
    have HML := Aside0.mk (hl.on H.out.2)
    have HFX := Aside0.mk hfx
    clear hx hm hl hfx
    go_upto_region 7 with (fail)
    obtain ⟨wy, hwy⟩ : ∃ wy, wy = wx.alloc (.cells #[.bool x.frm.null, .string (str x.frm.loc), .string (str x.frm.dom), .slice A1 x.to.length c1, .slice A3 x.body.length c3, .bool x.quiet, .string (str x.helo), .int .i64 x.tm] 46) := ⟨_, rfl⟩
    rw [← hwy]
    have HWy := Aside0.mk (show Below wx.heap.size wx wy by rw [hwy]; exact (Below.refl _ _).alloc (Nat.le_refl _) _)
    have HRy := Aside0.mk (show wy.heap[wx.heap.size]? = some (.cells #[.bool x.frm.null, .string (str x.frm.loc), .string (str x.frm.dom), .slice A1 x.to.length c1, .slice A3 x.body.length c3, .bool x.quiet, .string (str x.helo), .int .i64 x.tm] 46 (0, 0)) by rw [hwy]; exact heap_alloc_new _ _)
    have HRM := Aside0.mk (rmail_any x A1 c1 A3 c3 wy (HML.out.on HWy.out) HFX.out)
    have hrr := rmail_right x
    clear hwy q0 q1 q2 q3 q4 q5 q6 q7 b0 b1 b2 g0 g1 g2
    have HW := Aside0.mk (Below.refl wy.heap.size wy)
    have HWxy := Aside0.mk (H.out.2.trans (HWy.out.mono H.out.2.size))
    obtain ⟨⟨d0, d1, d2, d3, d4, d5, d6, d7⟩, y0, y1, y2, y3, y4, y5, y6, y7⟩ := cells8 HRy.out
    have hemp : x.helo.isEmpty = (str x.helo).toList.isEmpty := by rw [ByteArray.toList_eq]; rfl
    rw [hemp] at hrr
    obtain ⟨q, hq⟩ : ∃ q, q = x.quiet := ⟨_, rfl⟩
    rw [← hq] at hrr
    generalize hRm : B.rmail x = Rm at hrr HRM
    rcases and5b Rm (!q) ((str x.helo).toList.isEmpty) (decide (x.tm = 0)) true with h5 | ⟨h5, h6⟩ | ⟨h5, h6, h7⟩ | ⟨h5, h6, h7, h8⟩ | ⟨h5, h6, h7, h8⟩
    ·subst h5
     have HTF := Aside0.mk (HT.out.trans (hno (by rw [hrr]; rfl)))
     clear hall hno hrr hRm hemp hq hlt
     (try clear h6); (try clear h7)
     go_wp2_with (first | (go_at_call 46; (with_reducible refine Calls.mono (HRM.out) ?_); rintro e wq ⟨rfl, h⟩; have hwN := (HW.out.trans (h.mono HW.out.size) : Below wy.heap.size wy wq); clear HW h; have HW := Aside0.mk hwN; (try clear d0 d1 d2 d3 d4 d5 d6 d7 y0 y1 y2 y3 y4 y5 y6 y7); obtain ⟨⟨d0, d1, d2, d3, d4, d5, d6, d7⟩, y0, y1, y2, y3, y4, y5, y6, y7⟩ := cells8 (row_on hwN HRy.out); clear hwN))
     go_ret
     exact ⟨by rw [HTF.out]; rfl, HWa.out.trans ((HWxy.out.trans (HW.out.mono HWxy.out.size)).mono HWa.out.size)⟩
    ·subst h5
     obtain rfl : q = true := by simpa using h6
     rw [← hq] at d5 HRM HRy
     have HTF := Aside0.mk (HT.out.trans (hno (by rw [hrr]; rfl)))
     clear hall hno hrr hRm hemp hq hlt
     (try clear h6); (try clear h7)
     go_wp2_with (first | (go_at_call 46; (with_reducible refine Calls.mono (HRM.out) ?_); rintro e wq ⟨rfl, h⟩; have hwN := (HW.out.trans (h.mono HW.out.size) : Below wy.heap.size wy wq); clear HW h; have HW := Aside0.mk hwN; (try clear d0 d1 d2 d3 d4 d5 d6 d7 y0 y1 y2 y3 y4 y5 y6 y7); obtain ⟨⟨d0, d1, d2, d3, d4, d5, d6, d7⟩, y0, y1, y2, y3, y4, y5, y6, y7⟩ := cells8 (row_on hwN HRy.out); clear hwN))
     go_ret
     exact ⟨by rw [HTF.out]; rfl, HWa.out.trans ((HWxy.out.trans (HW.out.mono HWxy.out.size)).mono HWa.out.size)⟩
    ·subst h5
     obtain rfl : q = false := by simpa using h6
     rw [← hq] at d5 HRM HRy
     have h7' : ¬ ((str x.helo).toList = []) := fun h => by rw [h] at h7; cases h7
     have HTF := Aside0.mk (HT.out.trans (hno (by rw [hrr, h7]; rfl)))
     clear hall hno hrr hRm hemp hq hlt
     (try clear h6); (try clear h7)
     go_wp2_with (first | (go_at_call 46; (with_reducible refine Calls.mono (HRM.out) ?_); rintro e wq ⟨rfl, h⟩; have hwN := (HW.out.trans (h.mono HW.out.size) : Below wy.heap.size wy wq); clear HW h; have HW := Aside0.mk hwN; (try clear d0 d1 d2 d3 d4 d5 d6 d7 y0 y1 y2 y3 y4 y5 y6 y7); obtain ⟨⟨d0, d1, d2, d3, d4, d5, d6, d7⟩, y0, y1, y2, y3, y4, y5, y6, y7⟩ := cells8 (row_on hwN HRy.out); clear hwN))
     go_ret
     exact ⟨by rw [HTF.out]; rfl, HWa.out.trans ((HWxy.out.trans (HW.out.mono HWxy.out.size)).mono HWa.out.size)⟩
    ·subst h5
     obtain rfl : q = false := by simpa using h6
     rw [← hq] at d5 HRM HRy
     have h7' : (str x.helo).toList = [] := List.isEmpty_iff.1 h7
     have h8' : ¬ (x.tm = 0) := of_decide_eq_false h8
     have h8b : (x.tm != 0) = true := bne_iff_ne.2 h8'
     have HTF := Aside0.mk (HT.out.trans (hno (by rw [hrr, h7, h8]; rfl)))
     clear h8
     clear hall hno hrr hRm hemp hq hlt
     (try clear h6); (try clear h7)
     go_wp2_with (first | (go_at_call 46; (with_reducible refine Calls.mono (HRM.out) ?_); rintro e wq ⟨rfl, h⟩; have hwN := (HW.out.trans (h.mono HW.out.size) : Below wy.heap.size wy wq); clear HW h; have HW := Aside0.mk hwN; (try clear d0 d1 d2 d3 d4 d5 d6 d7 y0 y1 y2 y3 y4 y5 y6 y7); obtain ⟨⟨d0, d1, d2, d3, d4, d5, d6, d7⟩, y0, y1, y2, y3, y4, y5, y6, y7⟩ := cells8 (row_on hwN HRy.out); clear hwN))
     go_ret
     exact ⟨by rw [HTF.out]; rfl, HWa.out.trans ((HWxy.out.trans (HW.out.mono HWxy.out.size)).mono HWa.out.size)⟩
    ·subst h5
     obtain rfl : q = false := by simpa using h6
     rw [← hq] at d5 HRM HRy
     have h7' : (str x.helo).toList = [] := List.isEmpty_iff.1 h7
     have h8' : x.tm = 0 := of_decide_eq_true h8
     have HALL := Aside0.mk (hall.trans (by rw [hrr, h7, h8]; first | done | rfl))
     rw [h8'] at d7 HRM HRy
     clear hall hno hrr hRm hemp hq h6 h7 h8 h8' hlt
     go_wp2_with (first | (go_at_call 46; (with_reducible refine Calls.mono (HRM.out) ?_); rintro e wq ⟨rfl, h⟩; have hwN := (HW.out.trans (h.mono HW.out.size) : Below wy.heap.size wy wq); clear HW h; have HW := Aside0.mk hwN; (try clear d0 d1 d2 d3 d4 d5 d6 d7 y0 y1 y2 y3 y4 y5 y6 y7); obtain ⟨⟨d0, d1, d2, d3, d4, d5, d6, d7⟩, y0, y1, y2, y3, y4, y5, y6, y7⟩ := cells8 (row_on hwN HRy.out); clear hwN))
     go_roundg (gk - 1)
     case measure => omega
     case rel => exact ⟨n + 1, by go_num, by omega, by omega, ⟨HALL.out, HWxy.out.trans (HW.out.mono HWxy.out.size)⟩⟩
   ·have hne : n = b.mails.length := by omega
    have t1 : decide ((n : Int) < (b.mails.length : Int)) = false := by simp; omega
    have t2 : decide (n < b.mails.length) = false := by simp; omega
    have HTT := Aside0.mk (show T = true by
     have := H.out.1
     rw [hne, List.take_length] at this
     rw [HT.out, this])
    clear hne hlt
    go_wp2_with (fail)
    go_ret
    exact ⟨by rw [HTT.out]; rfl, HWa.out.trans (H.out.2.mono HWa.out.size)⟩
end Go.Proofs.YtpfmnkpmidjfjaaGreatDoor
/- What the reference's commands answers of a right bundle. -/
namespace Go.Proofs.YtpfmnkpmidjfjaaGreatDoor
open Go.RowKit Go.Lib
open Go.Proofs.YtpfmnkpmidjfjaaGreatDoorW.PrintWords
set_option linter.unusedVariables false
set_option linter.unusedSimpArgs false
theorem box_rtext {p : V.Path} (h : V.check p = true) : B.box p = V.rtext p := by
 unfold B.box V.ptext V.rtext
 rw [if_pos h]
 split <;> simp
theorem bd_append_str_step {ops : Array Oper} {o : Oper} {a : Act} {Q : Exit → Act → World → Prop} {w0 W : World} {b : Nat} {Kc : Act → World → Prop} (hw : Region.wanted o (yielded ops a.tmps) = true) (s x : Operand)
  (ho : o.op = .call { callee := .builtin .append, args := #[s, x], argTypes := #[25, 9] }) (v : Value) (xs ys : B.Bs)
  (hs : a.eval s = v) (hx : a.eval x = .string (str ys)) (h : Bd b w0 W v xs) (hlen : xs.length + ys.length ≤ 100000000000000)
  (k : ∀ v1 w1, Bd b w0 w1 v1 (xs ++ ys) → W.grownBy w1 v.ownBlock → Kc (a.put o.dst v1) w1) : if Region.wanted o (yielded ops a.tmps) = true then Oper.wp Tryz.prog o a W Kc Q else Kc (a.put o.dst undef) W := by
 rw [if_pos hw]
 obtain ⟨i0, hi, hzz⟩ := Option.map_eq_some_iff.1 infoU8
 simp only [Prod.mk.injEq] at hzz
 obtain ⟨hz0, hz1, hz2⟩ := hzz
 have hsz : (str ys).size = ys.length := str_size _
 obtain ⟨v', w', hr, h2, h3, h4⟩ := run_append_own_string (P := Tryz.prog) W b 25 9 o.type 5 i0 Tryz.underlying25 Tryz.underlying9 hi hz0 hz1 hz2 v (nb xs).length (nums .u8 (nb xs)) h.own (str ys) (by rw [hsz, nb_length]; simp only [maxLen]; omega) (by rw [hsz, nb_length]; omega) h.sz
 unfold Oper.wp execOp
 simp only [ho, resolve, invoke, builtin, Sem.run_bind, Sem.run_pure, Result.andThen_ok, List.map_toArray, List.map_cons, List.map_nil, hs, hx, hr]
 refine k v' w' ⟨h.be.grown h3 h.sz (own_base h.own), ?_, Nat.le_trans h.sz h3.size⟩ h3
 have e3 : Go.Proofs.YtpfmnkpmidjfjaaGreatDoorW.PrintWords.bytesOf (str ys) = nb ys := by
  show nb (lst (str ys)) = nb ys
  rw [lst_str]
 have e2 : strCells (str ys) = nums .u8 (nb ys) := by
  rw [← e3]
  simp [nums, Go.Proofs.YtpfmnkpmidjfjaaGreatDoorW.PrintWords.bytesOf, Lib.strCells]
 have e : nums .u8 (nb xs) ++ strCells (str ys) = nums .u8 (nb (xs ++ ys)) := by rw [nb_append, nums_append, e2]
 rw [e, show (nb xs).length + (str ys).size = (nb (xs ++ ys)).length by rw [hsz, nb_length, nb_length, List.length_append]] at h2
 exact Kd.R_of_own h2 (fun _ _ => trivial)
theorem bd_append2_step {ops : Array Oper} {o : Oper} {a : Act} {Q : Exit → Act → World → Prop} {w0 W : World} {b : Nat} {Kc : Act → World → Prop} (hw : Region.wanted o (yielded ops a.tmps) = true) (s x : Operand)
  (ho : o.op = .call { callee := .builtin .append, args := #[s, x], argTypes := #[25, 25] }) (v : Value) (xs ys : B.Bs) (A : Option Addr) (n c : Nat)
  (hs : a.eval s = v) (hx : a.eval x = .slice A n c) (hn : n = ys.length) (h : Bd b w0 W v xs) (hy : Bt W A c ys) (hlen : xs.length + ys.length ≤ 100000000000000)
  (k : ∀ v1 w1, Bd b w0 w1 v1 (xs ++ ys) → W.grownBy w1 v.ownBlock → Kc (a.put o.dst v1) w1) : if Region.wanted o (yielded ops a.tmps) = true then Oper.wp Tryz.prog o a W Kc Q else Kc (a.put o.dst undef) W := by
 subst hn
 refine Kd.R_append_rows_step kb (w0 := w0) b hw s x 25 5 (.int .u8 0) 1 ho Tryz.underlying25 infoU8 rfl (by decide) (by omega) v (nb xs) (nb ys) A (nb ys).length c (fun _ => True) (fun _ => False) hs (by rw [nb_length]; exact hx) h.ow hy.rd (fun _ _ h => h) (fun _ h => h.elim) (fun _ _ => trivial) h.be h.sz (by rw [nb_length, nb_length]; omega) ?_
 intro v1 w1 h1 h2 h3 _
 refine k v1 w1 ⟨h2, ?_, Nat.le_trans h.sz h3.size⟩ h3
 unfold Ow
 rw [nb_append]
 exact h1
theorem right_parts {m : B.Mail} (h : B.right m = true) : V.check m.frm = true ∧ (∀ p ∈ m.to, V.check p = true) ∧ B.body m.body = true := by
 unfold B.right B.sole at h
 simp only [Bool.and_eq_true, List.all_eq_true] at h
 exact ⟨h.1.1, fun p hp => (h.1.2.2.2.1 p hp).1, h.1.2.2.2.2⟩
set_option maxRecDepth 100000 in
set_option maxHeartbeats 8000000 in
theorem rcommands_any (b : B.Bundle) (A : Option Addr) (c : Nat) (w : World) (h : Bn w b A c) (hf : B.FitB b) (hr : ∀ m ∈ b.mails, B.right m = true) :
  Calls Tryz.prog 33 #[.agg #[.int .i64 b.origin, .int .i64 b.number, .slice A b.mails.length c]] w fun e w' => (∃ v, e = .returned v ∧ Ow w.heap.size w' v (B.commands b.mails)) ∧ Below w.heap.size w w' := by
 have HRT := Aside0.mk hr
 obtain ⟨w0, hw0⟩ : ∃ w0, w0 = w.alloc (.cells #[.int .i64 b.origin, .int .i64 b.number, .slice A b.mails.length c] 24) := ⟨_, rfl⟩
 have HWB := Aside0.mk (show Below w.heap.size w w0 by rw [hw0]; exact (Below.refl _ _).alloc (Nat.le_refl _) _)
 have HRB := Aside0.mk (show w0.heap[w.heap.size]? = some (.cells #[.int .i64 b.origin, .int .i64 b.number, .slice A b.mails.length c] 24 (0, 0)) by rw [hw0]; exact heap_alloc_new _ _)
 have HW0 := Aside0.mk hw0
 have HB := Aside0.mk (h.on HWB.out)
 have HM := Aside0.mk hf.ms
 have hfn := hf.n
 clear h hf hw0 hr
 go_enter Tryz.func33, Tryz.ntmps33
 go_upto_region 1 with (fail)
 rw [← HW0.out]
 go_wp2_with (fail)
 go_loopg [3, 4] b.mails.length (fun gf v3 v4 wr => ∃ (n : Nat), v4 = .int .i64 n ∧ n ≤ b.mails.length ∧ gf + n = b.mails.length ∧ Aside0 (Bd w0.heap.size w0 wr v3 ((b.mails.take n).flatMap B.mailBytes)))
 case atStart => exact ⟨0, rfl, by omega, by omega, ⟨Bd.none w0⟩⟩
 case round =>
  obtain ⟨n, rfl, hn, hg, H⟩ := hrel
  obtain ⟨wx, rfl⟩ : ∃ wz : World, wz = wr := ⟨_, rfl⟩
  obtain ⟨go, rfl⟩ : ∃ z : Nat, z = gk := ⟨_, rfl⟩
  obtain ⟨out, hout⟩ : ∃ out, out = (b.mails.take n).flatMap B.mailBytes := ⟨_, rfl⟩
  rw [← hout] at H
  obtain ⟨A6, c6, rfl, hb6⟩ := Ow.bt H.out.ow
  have hol : out.length ≤ 40000000000000 := by
   rw [hout]
   exact mails_len (fun m hm => HM.out m (List.mem_of_mem_take hm)) (by rw [List.length_take]; omega)
  have HOL := Aside0.mk hol
  have HOUT := Aside0.mk hout
  have HRx := Aside0.mk (row_on H.out.be HRB.out)
  obtain ⟨b0, b1, b2, g0, g1, g2⟩ := cells3 HRx.out
  clear hol hout hb6
  by_cases hlt : n < b.mails.length
  ·obtain ⟨m, hm⟩ : ∃ m, m = b.mails.getD n B.noMail := ⟨_, rfl⟩
   obtain ⟨ad, A1, c1, A2, c2, rfl, hmc, hml⟩ := mail_at HB.out.rd n hlt m hm
   obtain ⟨q0, q1, q2, q3, q4, q5, q6, q7⟩ := hmc.on H.out.be
   have hlt' : (n : Int) < (b.mails.length : Int) := by omega
   have h0 : (0 : Int) ≤ (n : Int) := by omega
   have hmem : m ∈ b.mails := by rw [hm]; exact getD_mem b.mails n hlt _
   have HFX := Aside0.mk (HM.out _ hmem)
   have HRP := Aside0.mk (right_parts (HRT.out _ hmem))
   have HML := Aside0.mk hml
   have hft := flat_take B.mailBytes b.mails n hlt B.noMail
   rw [← hm, ← HOUT.out] at hft
   have HFT := Aside0.mk hft
   clear hm hmc hml hft hmem
   go_upto_region 6 with (fail)
   obtain ⟨wy, hwy⟩ : ∃ wy, wy = wx.alloc (.cells #[.bool m.frm.null, .string (str m.frm.loc), .string (str m.frm.dom), .slice A1 m.to.length c1, .slice A2 m.body.length c2, .bool m.quiet, .string (str m.helo), .int .i64 m.tm] 46) := ⟨_, rfl⟩
   obtain ⟨gm, hgm⟩ : ∃ gm, gm = wx.heap.size := ⟨_, rfl⟩
   rw [← hwy, ← hgm]
   have HDy := Aside0.mk (show Bd w0.heap.size w0 wy (.slice A6 out.length c6) out by rw [hwy]; exact H.out.alloc _)
   have HRy := Aside0.mk (show wy.heap[gm]? = some (.cells #[.bool m.frm.null, .string (str m.frm.loc), .string (str m.frm.dom), .slice A1 m.to.length c1, .slice A2 m.body.length c2, .bool m.quiet, .string (str m.helo), .int .i64 m.tm] 46 (0, 0)) by rw [hwy, hgm]; exact heap_alloc_new _ _)
   clear hwy hgm q0 q1 q2 q3 q4 q5 q6 q7 b0 b1 b2 g0 g1 g2
   obtain ⟨⟨d0, d1, d2, d3, d4, d5, d6, d7⟩, y0, y1, y2, y3, y4, y5, y6, y7⟩ := cells8 HRy.out
   obtain ⟨bx, hbx⟩ : ∃ bx, bx = V.rtext m.frm := ⟨_, rfl⟩
   have hbb : bx = B.box m.frm := by rw [hbx, box_rtext HRP.out.1]
   have hbl := box_len HFX.out.frm
   rw [← hbb] at hbl
   have hpt : ∀ W, Calls Tryz.prog 55 #[.agg #[.bool m.frm.null, .string (str m.frm.loc), .string (str m.frm.dom)]] W fun e w' => e = .returned (.string (str bx)) ∧ Below W.heap.size W w' := fun W => by rw [hbx]; exact rtext_any m.frm W HFX.out.frm.1 HFX.out.frm.2
   have HPT := Aside0.mk hpt
   have k1 := kat (a := B.wFrom) (b := bx) (x := ⟨#[77, 65, 73, 76, 32, 70, 82, 79, 77, 58]⟩) (y := str bx) rfl rfl (by decide) (by omega)
   have k2 := kat (a := B.wFrom ++ bx) (b := [13, 10]) (x := str (B.wFrom ++ bx)) (y := ⟨#[13, 10]⟩) rfl rfl (by have : B.wFrom.length = 10 := rfl; rw [List.length_append]; omega) (by decide)
   obtain ⟨s1, hs1⟩ : ∃ s1, s1 = str (B.wFrom ++ bx) := ⟨_, rfl⟩
   obtain ⟨l2, hl2⟩ : ∃ l2, l2 = B.wFrom ++ bx ++ [13, 10] := ⟨_, rfl⟩
   have hl2l : l2.length ≤ 300000 := by have : B.wFrom.length = 10 := rfl; rw [hl2, List.length_append, List.length_append]; simp; omega
   rw [← hs1] at k1 k2
   rw [← hl2] at k2
   have HL2 := Aside0.mk hl2l
   have HLL := Aside0.mk (show l2 = B.wFrom ++ B.box m.frm ++ B.crlf by rw [hl2, hbb]; rfl)
   clear hpt hbx hbb hbl hs1 hl2 hl2l
   go_wp2_with (first | (go_at_call 55; (with_reducible refine Calls.mono (HPT.out _) ?_); rintro r w1 ⟨rfl, h⟩; have HD1 := Aside0.mk (HDy.out.go h); have HR1 := Aside0.mk (row_on h HRy.out); clear h) | ((with_reducible refine gate_builtin (b := .append) (xs := #[.tmp 19, .tmp 24]) rfl ?_); at_builtin; refine bd_append_str rfl (.tmp 19) (.tmp 24) rfl _ _ l2 rfl rfl HD1.out (by have := HOL.out; have := HL2.out; omega) ?_; intro v1 w2 h hg; have HD2 := Aside0.mk h; have HR2 := Aside0.mk (HD1.out.row hg (by decide) HR1.out); clear h hg; (try clear d0 d1 d2 d3 d4 d5 d6 d7 y0 y1 y2 y3 y4 y5 y6 y7); obtain ⟨⟨d0, d1, d2, d3, d4, d5, d6, d7⟩, y0, y1, y2, y3, y4, y5, y6, y7⟩ := cells8 HR2.out))
   go_loopg [3, 6] m.to.length (fun gf v3 v6 wr => ∃ (k : Nat), v6 = .int .i64 k ∧ k ≤ m.to.length ∧ gf + k = m.to.length ∧ Aside0 (Bd w0.heap.size w0 wr v3 (out ++ l2 ++ (m.to.take k).flatMap B.toLine) ∧ wr.heap[gm]? = some (.cells #[.bool m.frm.null, .string (str m.frm.loc), .string (str m.frm.dom), .slice A1 m.to.length c1, .slice A2 m.body.length c2, .bool m.quiet, .string (str m.helo), .int .i64 m.tm] 46 (0, 0))))
   case atStart => exact ⟨0, rfl, by omega, by omega, ⟨by simpa using HD2.out, HR2.out⟩⟩
   case round =>
    obtain ⟨k, rfl, hk, hgk, H3⟩ := hrel
    obtain ⟨wz, rfl⟩ : ∃ wz : World, wz = wr := ⟨_, rfl⟩
    obtain ⟨gi, rfl⟩ : ∃ z : Nat, z = gk := ⟨_, rfl⟩
    obtain ⟨out3, hout3⟩ : ∃ out3, out3 = out ++ l2 ++ (m.to.take k).flatMap B.toLine := ⟨_, rfl⟩
    rw [← hout3] at H3
    have hol3 : out3.length ≤ 61000000000000 := by
     have h1 := tos_len (l := m.to.take k) (fun p hp => HFX.out.tos p (List.mem_of_mem_take hp)) (by rw [List.length_take]; have := HFX.out.n; omega)
     have := HOL.out
     have := HL2.out
     rw [hout3]
     simp only [List.length_append]
     omega
    have HOL3 := Aside0.mk hol3
    have HOUT3 := Aside0.mk hout3
    obtain ⟨A7, c7, rfl, hb7⟩ := Ow.bt H3.out.1.ow
    clear hol3 hout3 hb7 k1 k2 d0 d1 d2 d3 d4 d5 d6 d7 y0 y1 y2 y3 y4 y5 y6 y7
    obtain ⟨⟨d0, d1, d2, d3, d4, d5, d6, d7⟩, y0, y1, y2, y3, y4, y5, y6, y7⟩ := cells8 H3.out.2
    have hto : m.to.length ≤ 100000 := HFX.out.n
    by_cases hkl : k < m.to.length
    ·obtain ⟨p, hp⟩ : ∃ p, p = m.to.getD k V.noPath := ⟨_, rfl⟩
     obtain ⟨ad1, rfl, hp0, hp1, hp2⟩ := path_at HML.out.tos k hkl p hp
     have f0 := cell_up H3.out.1.be hp0
     have f1 := cell_up H3.out.1.be hp1
     have f2 := cell_up H3.out.1.be hp2
     have hkl' : (k : Int) < (m.to.length : Int) := by omega
     have hk0 : (0 : Int) ≤ (k : Int) := by omega
     have hpm : p ∈ m.to := by rw [hp]; exact getD_mem m.to k hkl _
     have hfp : B.fitP p := HFX.out.tos _ hpm
     have hft := flat_take B.toLine m.to k hkl V.noPath
     rw [← hp] at hft
     have HFK := Aside0.mk hft
     obtain ⟨by2, hby⟩ : ∃ by2, by2 = V.rtext p := ⟨_, rfl⟩
     have hbb : by2 = B.box p := by rw [hby, box_rtext (HRP.out.2.1 p hpm)]
     have hbl := box_len hfp
     rw [← hbb] at hbl
     have hpt : ∀ W, Calls Tryz.prog 55 #[.agg #[.bool p.null, .string (str p.loc), .string (str p.dom)]] W fun e w' => e = .returned (.string (str by2)) ∧ Below W.heap.size W w' := fun W => by rw [hby]; exact rtext_any p W hfp.1 hfp.2
     have HPT2 := Aside0.mk hpt
     have k1 := kat (a := B.wTo) (b := by2) (x := ⟨#[82, 67, 80, 84, 32, 84, 79, 58]⟩) (y := str by2) rfl rfl (by decide) (by omega)
     have k2 := kat (a := B.wTo ++ by2) (b := [13, 10]) (x := str (B.wTo ++ by2)) (y := ⟨#[13, 10]⟩) rfl rfl (by have : B.wTo.length = 8 := rfl; rw [List.length_append]; omega) (by decide)
     obtain ⟨s3, hs3⟩ : ∃ s3, s3 = str (B.wTo ++ by2) := ⟨_, rfl⟩
     obtain ⟨l4, hl4⟩ : ∃ l4, l4 = B.wTo ++ by2 ++ [13, 10] := ⟨_, rfl⟩
     have hl4l : l4.length ≤ 300000 := by have : B.wTo.length = 8 := rfl; rw [hl4, List.length_append, List.length_append]; simp; omega
     rw [← hs3] at k1 k2
     rw [← hl4] at k2
     have HL4 := Aside0.mk hl4l
     have HLL4 := Aside0.mk (show l4 = B.toLine p by rw [hl4, hbb]; rfl)
     clear hpt hby hbb hbl hs3 hl4 hl4l hft hp hp0 hp1 hp2 hfp hkl hpm
     go_wp2_with (first | (go_at_call 55; (with_reducible refine Calls.mono (HPT2.out _) ?_); rintro r w4 ⟨rfl, h⟩; have HD4 := Aside0.mk (H3.out.1.go h); have HR4 := Aside0.mk (row_on h H3.out.2); clear h) | ((with_reducible refine gate_builtin (b := .append) (xs := #[.tmp 33, .tmp 41]) rfl ?_); at_builtin; refine bd_append_str rfl (.tmp 33) (.tmp 41) rfl _ _ l4 rfl rfl HD4.out (by have := HOL3.out; have := HL4.out; omega) ?_; intro v5 w5 h hg; have HD5 := Aside0.mk h; have HR5 := Aside0.mk (HD4.out.row hg (by decide) HR4.out); clear h hg))
     go_roundg (gi - 1)
     case measure => omega
     case rel =>
      refine ⟨k + 1, by go_num, by omega, by omega, ⟨?_, HR5.out⟩⟩
      have h5 := HD5.out
      rw [HOUT3.out, HLL4.out] at h5
      rw [HFK.out]
      simpa using h5
    ·have hke : k = m.to.length := by omega
     have t1 : decide ((k : Int) < (m.to.length : Int)) = false := by simp; omega
     have t2 : decide (k < m.to.length) = false := by simp; omega
     obtain ⟨st, hst⟩ : ∃ st, st = B.stuff m.body := ⟨_, rfl⟩
     have hsl : st.length ≤ 10001000000 := by rw [hst]; exact stuff_len HFX.out.body
     have hsf : ∀ W, Below w0.heap.size w0 W → Calls Tryz.prog 56 #[.slice A2 m.body.length c2] W fun e w' => (∃ A' c', e = .returned (.slice A' st.length c') ∧ Bt w' A' c' st) ∧ Below W.heap.size W w' := fun W hW => by
      refine (rstuff_any (HML.out.body.on hW) (by have := HFX.out.body; omega) HRP.out.2.2).mono ?_
      rintro e w' ⟨⟨v, rfl, h1⟩, h2⟩
      rw [← hst] at h1
      obtain ⟨A', c', rfl, h3⟩ := Ow.bt h1
      exact ⟨⟨A', c', rfl, h3⟩, h2⟩
     have HSF := Aside0.mk hsf
     have HSL := Aside0.mk hsl
     have h6 : out3 ++ [68, 65, 84, 65, 13, 10] ++ st = out ++ B.mailBytes m := by
      rw [HOUT3.out, hke, List.take_length, HLL.out, hst]
      unfold B.mailBytes B.wData
      rw [if_pos HRP.out.2.2]
      simp only [List.append_assoc]
     have HEQ := Aside0.mk h6
     have HS := Aside0.mk (fun (W : World) (hW : W.heap[gm]? = some (.cells #[.bool m.frm.null, .string (str m.frm.loc), .string (str m.frm.dom), .slice A1 m.to.length c1, .slice A2 m.body.length c2, .bool m.quiet, .string (str m.helo), .int .i64 m.tm] 46 (0, 0))) => (cells8 hW).1.2.2.2.2.1)
     clear hst hsl hsf hke h6 hkl
     go_upto_region 11 with (fail)
     refine wp_region_held_drew (S := (fun w' => w'.cell? ⟨gm, 4, none⟩ = some (.slice A2 m.body.length c2))) (by kernel_rfl) ?_ (fun hHeld => ?_)
     ·first | exact HS.out _ H3.out.2 | exact HS.out _ HR7.out | exact HS.out _ HR8.out | exact HS.out _ HR9.out
     refine wpAnyH_take (i := 0) (oi := _) (v := ?_) rfl (by kernel_rfl) (by kernel_rfl) (by kernel_rfl) (fun _ _ _ h => h) (Or.inl ⟨by rfl, ?_⟩) (by assumption) ?_
     case refine_2 => (intro w hSw; (try dsimp only [List.getElem_toArray, List.getElem_cons_zero, List.getElem_cons_succ] at hSw ⊢); go_simp; (try with_reducible rfl))
     try simp only [Act.put, List.getElem_toArray, List.getElem_cons_zero, List.getElem_cons_succ, List.setIfInBounds_toArray, List.set_cons_zero, List.set_cons_succ]
     refine wpAnyH_take (i := 2) (oi := _) (v := ?_) rfl (by kernel_rfl) (by kernel_rfl) (by kernel_rfl) (fun _ _ _ h => h) (Or.inl ⟨by rfl, ?_⟩) (by assumption) ?_
     case refine_2 => (intro w hSw; (try dsimp only [List.getElem_toArray, List.getElem_cons_zero, List.getElem_cons_succ] at hSw ⊢); go_simp; (try with_reducible rfl))
     try simp only [Act.put, List.getElem_toArray, List.getElem_cons_zero, List.getElem_cons_succ, List.setIfInBounds_toArray, List.set_cons_zero, List.set_cons_succ]
     refine wpAnyH_take (i := 3) (oi := _) (v := ?_) rfl (by kernel_rfl) (by kernel_rfl) (by kernel_rfl) (fun _ _ _ h => h) (Or.inl ⟨by rfl, ?_⟩) (by assumption) ?_
     case refine_2 => (intro w hSw; (try dsimp only [List.getElem_toArray, List.getElem_cons_zero, List.getElem_cons_succ] at hSw ⊢); go_simp; (try with_reducible rfl))
     try simp only [Act.put, List.getElem_toArray, List.getElem_cons_zero, List.getElem_cons_succ, List.setIfInBounds_toArray, List.set_cons_zero, List.set_cons_succ]
     refine wpAnyH_ready (rs := [1]) (by kernel_rfl) (by simp) ?_
     refine (AllReadyH.cons (o := _) (by simp only [List.getElem?_toArray, List.getElem?_cons_zero, List.getElem?_cons_succ]; rfl) (fun K hK => ?_) AllReadyH.nil)
     refine bd_append_str_step (by rfl) (.tmp 43) (.const (.string { data := #[68, 65, 84, 65, 13, 10] })) rfl _ _ [68, 65, 84, 65, 13, 10] rfl rfl (H3.out.1.go ((Below.refl wz.heap.size wz).drew)) (by have := HOL3.out; simp; omega) ?_
     intro v7 w7 hd7 hg7
     have HD7 := Aside0.mk hd7
     have HR7 := Aside0.mk ((H3.out.1.go ((Below.refl wz.heap.size wz).drew)).row hg7 (by decide) H3.out.2)
     clear hd7 hg7
     refine hK.out _ _ ?_ (fun hHeld2 => ?_)
     ·first | exact HS.out _ H3.out.2 | exact HS.out _ HR7.out | exact HS.out _ HR8.out | exact HS.out _ HR9.out
     clear hK K hHeld
     have hHeld := hHeld2
     clear hHeld2
     try simp only [Act.put, List.getElem_toArray, List.getElem_cons_zero, List.getElem_cons_succ, List.setIfInBounds_toArray, List.set_cons_zero, List.set_cons_succ]
     refine wpAnyH_ready (rs := [4]) (by kernel_rfl) (by simp) ?_
     refine (AllReadyH.cons (o := _) (by simp only [List.getElem?_toArray, List.getElem?_cons_zero, List.getElem?_cons_succ]; rfl) (fun K hK => ?_) AllReadyH.nil)
     go_simp
     go_at_call 56
     (with_reducible refine Calls.mono (HSF.out _ HD7.out.be) ?_)
     rintro e w8 ⟨⟨A8, c8, rfl, hb8⟩, h⟩
     have HD8 := Aside0.mk (HD7.out.go h)
     have HB8 := Aside0.mk hb8
     have HR8 := Aside0.mk (row_on h HR7.out)
     clear hb8 h
     go_wp2_with (fail)
     refine hK.out _ _ ?_ (fun hHeld2 => ?_)
     ·first | exact HS.out _ H3.out.2 | exact HS.out _ HR7.out | exact HS.out _ HR8.out | exact HS.out _ HR9.out
     clear hK K hHeld
     have hHeld := hHeld2
     clear hHeld2
     try simp only [Act.put, List.getElem_toArray, List.getElem_cons_zero, List.getElem_cons_succ, List.setIfInBounds_toArray, List.set_cons_zero, List.set_cons_succ]
     refine wpAnyH_ready (rs := [5]) (by kernel_rfl) (by simp) ?_
     refine (AllReadyH.cons (o := _) (by simp only [List.getElem?_toArray, List.getElem?_cons_zero, List.getElem?_cons_succ]; rfl) (fun K hK => ?_) AllReadyH.nil)
     refine bd_append2_step (by rfl) (.tmp 44) (.tmp 47) rfl _ _ st A8 _ c8 rfl rfl rfl HD8.out HB8.out (by have := HOL3.out; have := HSL.out; simp; omega) ?_
     intro v9 w9 hd9 hg9
     have HD9 := Aside0.mk hd9
     have HR9 := Aside0.mk (HD8.out.row hg9 (by decide) HR8.out)
     clear hd9 hg9
     refine hK.out _ _ ?_ (fun hHeld2 => ?_)
     ·first | exact HS.out _ H3.out.2 | exact HS.out _ HR7.out | exact HS.out _ HR8.out | exact HS.out _ HR9.out
     clear hK K hHeld
     have hHeld := hHeld2
     clear hHeld2
     try simp only [Act.put, List.getElem_toArray, List.getElem_cons_zero, List.getElem_cons_succ, List.setIfInBounds_toArray, List.set_cons_zero, List.set_cons_succ]
     refine wpAnyH_take (i := 6) (oi := _) (v := ?_) rfl (by kernel_rfl) (by kernel_rfl) (by kernel_rfl) (fun _ _ _ h => h) (Or.inl ⟨by rfl, ?_⟩) (by assumption) ?_
     case refine_2 => (intro w hSw; (try dsimp only [List.getElem_toArray, List.getElem_cons_zero, List.getElem_cons_succ] at hSw ⊢); go_simp; (try with_reducible rfl))
     try simp only [Act.put, List.getElem_toArray, List.getElem_cons_zero, List.getElem_cons_succ, List.setIfInBounds_toArray, List.set_cons_zero, List.set_cons_succ]
     refine wpAnyH_done (by kernel_rfl) ?_ _
     go_wp2_with (fail)
     go_roundg (go - 1)
     case measure => omega
     case rel =>
      refine ⟨n + 1, by go_num, by omega, by omega, ⟨?_⟩⟩
      have h9 := HD9.out
      rw [HEQ.out] at h9
      rw [HFT.out]
      exact h9
  ·have hne : n = b.mails.length := by omega
   have t1 : decide ((n : Int) < (b.mails.length : Int)) = false := by simp; omega
   have t2 : decide (n < b.mails.length) = false := by simp; omega
   have h6 : out ++ [81, 85, 73, 84, 13, 10] = B.commands b.mails := by
    rw [HOUT.out, hne, List.take_length]
    rfl
   have HEQ := Aside0.mk h6
   clear hne h6 hlt
   go_wp2_with (first | ((with_reducible refine gate_builtin (b := .append) (xs := #[.tmp 49, .const (.string { data := #[81, 85, 73, 84, 13, 10] })]) rfl ?_); at_builtin; refine bd_append_str rfl (.tmp 49) (.const (.string { data := #[81, 85, 73, 84, 13, 10] })) rfl _ _ [81, 85, 73, 84, 13, 10] rfl rfl H.out (by have := HOL.out; simp; omega) ?_; intro v7 w7 h hg; have HD7 := Aside0.mk h; clear h hg))
   go_ret
   refine ⟨⟨_, rfl, ?_⟩, HWB.out.trans (HD7.out.be.mono HWB.out.size)⟩
   have h7 := HD7.out.ow
   rw [HEQ.out] at h7
   exact h7.low HWB.out.size
end Go.Proofs.YtpfmnkpmidjfjaaGreatDoor
/- What the reference's BundleBytes answers. -/
namespace Go.Proofs.YtpfmnkpmidjfjaaGreatDoor
open Go.RowKit Go.Lib
open Go.Proofs.YtpfmnkpmidjfjaaGreatDoorW.PrintWords
set_option linter.unusedVariables false
set_option linter.unusedSimpArgs false
theorem kat2 {a b : V.Bs} {x y : ByteArray} (hx : x = str a) (hy : y = str b) (ha : a.length ≤ 1000000) (hb : b.length ≤ 1000000) : ∃ z, z = str (a ++ b) ∧ ∀ w, (Op.stringOp .add x y).run Tryz.prog w = .ok (.string z) w := ⟨_, rfl, kat hx hy ha hb⟩
theorem itoa_small (n : Int) (h0 : 0 ≤ n) (h1 : n < 1000000000000000) : Lib.itoa n = Lib.decDigits n.toNat ∧ (Lib.itoa n).length ≤ 15 := by
 have e : Lib.itoa n = Lib.decDigits n.toNat := by
  unfold Lib.itoa
  rw [if_neg (by omega)]
 exact ⟨e, by rw [e]; exact digits_len n.toNat 14 (by omega)⟩
theorem digits_at (n : Int) (h0 : 0 ≤ n) (h1 : n < 1000000000000000) : ∃ (e : B.Bs) (s : ByteArray), e = Lib.itoa n ∧ s = str e ∧ e.length ≤ 15 ∧ ∀ w, Calls Tryz.prog 27 #[.int .i64 n] w fun e w' => e = .returned (.string s) ∧ Below w.heap.size w w' := by
 have h := itoa_small n h0 h1
 refine ⟨_, _, rfl, rfl, h.2, fun w => ?_⟩
 have hd := digits_any n.toNat (by omega) w
 rw [show ((n.toNat : Nat) : Int) = n by omega, ← h.1] at hd
 exact hd
set_option maxRecDepth 100000 in
set_option maxHeartbeats 8000000 in
theorem rbytes_any (b : B.Bundle) (A : Option Addr) (c : Nat) (w : World) (h : Bn w b A c) (hf : B.FitB b) :
  Calls Tryz.prog 14 #[.agg #[.int .i64 b.origin, .int .i64 b.number, .slice A b.mails.length c]] w fun e w' => (∃ A1 c1, e = .returned (.tuple #[.slice A1 (B.bytes b).1.length c1, .int .i64 (B.bytes b).2]) ∧ Bt w' A1 c1 (B.bytes b).1) ∧ Below w.heap.size w w' := by
 obtain ⟨X, hX⟩ : ∃ X, X = B.bytes b := ⟨_, rfl⟩
 rw [← hX]
 obtain ⟨w0, hw0⟩ : ∃ w0, w0 = w.alloc (.cells #[.int .i64 b.origin, .int .i64 b.number, .slice A b.mails.length c] 24) := ⟨_, rfl⟩
 have HWB := Aside0.mk (show Below w.heap.size w w0 by rw [hw0]; exact (Below.refl _ _).alloc (Nat.le_refl _) _)
 have HR := Aside0.mk (show w0.heap[w.heap.size]? = some (.cells #[.int .i64 b.origin, .int .i64 b.number, .slice A b.mails.length c] 24 (0, 0)) by rw [hw0]; exact heap_alloc_new _ _)
 have HW0 := Aside0.mk hw0
 have HB := Aside0.mk (h.on HWB.out)
 have hbd := rbundle_any b A c w0 HB.out hf
 cases hck : B.check b with
 | false =>
  have hX2 : X = ([], 5) := by rw [hX]; unfold B.bytes; rw [hck]; rfl
  have HX := Aside0.mk hX2
  rw [hck] at hbd
  have HBD := Aside0.mk hbd
  clear hX hX2 hbd hck h hf hw0
  go_enter Tryz.func14, Tryz.ntmps14
  go_upto_region 1 with (fail)
  rw [← HW0.out]
  obtain ⟨b0, b1, b2, g0, g1, g2⟩ := cells3 HR.out
  go_wp2_with (first | (go_at_call 20; (with_reducible refine Calls.mono HBD.out ?_); rintro r w1 ⟨rfl, h⟩; have H1 := Aside0.mk h; clear h))
  go_ret2
  refine ⟨⟨none, 0, by rw [HX.out]; rfl, ?_⟩, HWB.out.trans (H1.out.mono HWB.out.size)⟩
  rw [HX.out]
  exact Bt.none _
 | true =>
  obtain ⟨cm, hcm⟩ : ∃ cm, cm = B.commands b.mails := ⟨_, rfl⟩
  have hX2 : X = if 4096 < (B.head b cm ++ cm).length then ([], 2) else (B.head b cm ++ cm, 0) := by rw [hX, hcm]; unfold B.bytes; rw [hck]; rfl
  have hrt : ∀ m ∈ b.mails, B.right m = true := by
   unfold B.check at hck
   simp only [Bool.and_eq_true, List.all_eq_true] at hck
   exact hck.2.2.2.2.2.2
  have hrng := check_ranges hck
  have hcl := commands_len hf
  have hcp := commands_pos b.mails
  rw [← hcm] at hcl hcp
  have hcc : ∀ W, Below w0.heap.size w0 W → Calls Tryz.prog 33 #[.agg #[.int .i64 b.origin, .int .i64 b.number, .slice A b.mails.length c]] W fun e w' => (∃ v, e = .returned v ∧ Ow W.heap.size w' v cm) ∧ Below W.heap.size W w' := fun W hW => by rw [hcm]; exact rcommands_any b A c W (HB.out.on hW) hf hrt
  rw [hck] at hbd
  have HBD := Aside0.mk hbd
  have HX := Aside0.mk hX2
  have HCC := Aside0.mk hcc
  have HCL := Aside0.mk hcl
  have HCP := Aside0.mk hcp
  have HF := Aside0.mk hf
  clear hX hX2 hbd hck h hf hw0 hrt hcl hcp hcc hcm
  go_enter Tryz.func14, Tryz.ntmps14
  go_upto_region 1 with (fail)
  rw [← HW0.out]
  obtain ⟨b0, b1, b2, g0, g1, g2⟩ := cells3 HR.out
  go_upto_region 4 with (first | (go_at_call 20; (with_reducible refine Calls.mono HBD.out ?_); rintro r w1 ⟨rfl, h⟩; have H1 := Aside0.mk h; (clear b0 b1 b2 g0 g1 g2); obtain ⟨b0, b1, b2, g0, g1, g2⟩ := cells3 (row_on h HR.out); clear h) | (go_at_call 33; (with_reducible refine Calls.mono (HCC.out _ H1.out) ?_); rintro r w2 ⟨⟨v, rfl, ho⟩, h⟩; have H2 := Aside0.mk (H1.out.trans (h.mono H1.out.size)); obtain ⟨A5, c5, rfl, hb5⟩ := Ow.bt ho; have HC5 := Aside0.mk hb5; clear h ho hb5))
  have HR2 := Aside0.mk (row_on H2.out HR.out)
  clear b0 b1 b2 g0 g1 g2
  have hcl := HCL.out
  have hcp := HCP.out
  ·have HLG := Aside0.mk (fun W (hW : Below w2.heap.size w2 W) => rlong_any (HC5.out.on hW) (by omega))
   have hlt := B.long_lt cm
   obtain ⟨e1, s1, he1, hs1, hl1, hd1⟩ := digits_at b.origin (by omega) (by omega)
   obtain ⟨e2, s2, he2, hs2, hl2, hd2⟩ := digits_at b.number (by omega) (by omega)
   obtain ⟨e3, s3, he3, hs3, hl3, hd3⟩ := digits_at (b.mails.length : Int) (by omega) (by omega)
   obtain ⟨e4, s4, he4, hs4, hl4, hd4⟩ := digits_at (cm.length : Int) (by omega) (by omega)
   obtain ⟨e5, s5, he5, hs5, hl5, hd5⟩ := digits_at ((B.long cm : Nat) : Int) (by omega) (by omega)
   have HD1 := Aside0.mk hd1
   have HD2 := Aside0.mk hd2
   have HD3 := Aside0.mk hd3
   have HD4 := Aside0.mk hd4
   have HD5 := Aside0.mk hd5
   obtain ⟨z1, hz1, k1⟩ := kat2 (a := (B.wBundle ++ [32])) (b := e1) (x := (⟨#[66, 85, 78, 68, 76, 69, 32]⟩ : ByteArray)) (y := s1) rfl hs1 (by simp [B.wBundle] <;> omega) (by omega)
   obtain ⟨z2, hz2, k2⟩ := kat2 (a := ((B.wBundle ++ [32]) ++ e1)) (b := [32]) (x := z1) (y := ⟨#[32]⟩) hz1 rfl (by simp [B.wBundle] <;> omega) (by decide)
   obtain ⟨z3, hz3, k3⟩ := kat2 (a := (((B.wBundle ++ [32]) ++ e1) ++ [32])) (b := e2) (x := z2) (y := s2) hz2 hs2 (by simp [B.wBundle] <;> omega) (by omega)
   obtain ⟨z4, hz4, k4⟩ := kat2 (a := ((((B.wBundle ++ [32]) ++ e1) ++ [32]) ++ e2)) (b := [32]) (x := z3) (y := ⟨#[32]⟩) hz3 rfl (by simp [B.wBundle] <;> omega) (by decide)
   obtain ⟨z5, hz5, k5⟩ := kat2 (a := (((((B.wBundle ++ [32]) ++ e1) ++ [32]) ++ e2) ++ [32])) (b := e3) (x := z4) (y := s3) hz4 hs3 (by simp [B.wBundle] <;> omega) (by omega)
   obtain ⟨z6, hz6, k6⟩ := kat2 (a := ((((((B.wBundle ++ [32]) ++ e1) ++ [32]) ++ e2) ++ [32]) ++ e3)) (b := [32]) (x := z5) (y := ⟨#[32]⟩) hz5 rfl (by simp [B.wBundle] <;> omega) (by decide)
   obtain ⟨z7, hz7, k7⟩ := kat2 (a := (((((((B.wBundle ++ [32]) ++ e1) ++ [32]) ++ e2) ++ [32]) ++ e3) ++ [32])) (b := e4) (x := z6) (y := s4) hz6 hs4 (by simp [B.wBundle] <;> omega) (by omega)
   obtain ⟨z8, hz8, k8⟩ := kat2 (a := ((((((((B.wBundle ++ [32]) ++ e1) ++ [32]) ++ e2) ++ [32]) ++ e3) ++ [32]) ++ e4)) (b := [32]) (x := z7) (y := ⟨#[32]⟩) hz7 rfl (by simp [B.wBundle] <;> omega) (by decide)
   obtain ⟨z9, hz9, k9⟩ := kat2 (a := (((((((((B.wBundle ++ [32]) ++ e1) ++ [32]) ++ e2) ++ [32]) ++ e3) ++ [32]) ++ e4) ++ [32])) (b := e5) (x := z8) (y := s5) hz8 hs5 (by simp [B.wBundle] <;> omega) (by omega)
   obtain ⟨z10, hz10, k10⟩ := kat2 (a := ((((((((((B.wBundle ++ [32]) ++ e1) ++ [32]) ++ e2) ++ [32]) ++ e3) ++ [32]) ++ e4) ++ [32]) ++ e5)) (b := [13, 10]) (x := z9) (y := ⟨#[13, 10]⟩) hz9 rfl (by simp [B.wBundle] <;> omega) (by decide)
   have heq : (((((((((((B.wBundle ++ [32]) ++ e1) ++ [32]) ++ e2) ++ [32]) ++ e3) ++ [32]) ++ e4) ++ [32]) ++ e5) ++ [13, 10]) = B.head b cm := by
    unfold B.head B.nums
    rw [he1, he2, he3, he4, he5]
    simp [B.crlf]
   rw [heq] at hz10
   subst hz10
   have hhl : (B.head b cm).length ≤ 300 := by rw [← heq]; simp [B.wBundle]; omega
   have hconv := conv_run (str (B.head b cm))
   have HHL := Aside0.mk hhl
   have HS := Aside0.mk (fun W (hW : Below w2.heap.size w2 W) => let ⟨x0, x1, x2, _⟩ := cells3 (row_on hW HR2.out); And.intro x0 (And.intro x1 x2))
   have HW := Aside0.mk (Below.refl w2.heap.size w2)
   clear hd1 hd2 hd3 hd4 hd5 he1 he2 he3 he4 he5 heq hhl hl1 hl2 hl3 hl4 hl5 hz1 hz2 hz3 hz4 hz5 hz6 hz7 hz8 hz9 hs1 hs2 hs3 hs4 hs5
   refine wp_region_held_drew (S := (fun w' => w'.cell? ⟨w.heap.size, 0, none⟩ = some (.int .i64 b.origin) ∧ w'.cell? ⟨w.heap.size, 1, none⟩ = some (.int .i64 b.number) ∧ w'.cell? ⟨w.heap.size, 2, none⟩ = some (.slice A b.mails.length c))) (by kernel_rfl) ?_ (fun hHeld => ?_)
   ·first | exact HS.out _ (HW.out.drew) | exact HS.out _ HW.out | exact HS.out _ (HW.out.trans (HWc.out.mono HW.out.size))
   refine wpAnyH_take (i := 0) (oi := _) (v := ?_) rfl (by kernel_rfl) (by kernel_rfl) (by kernel_rfl) (fun _ _ _ h => h) (Or.inl ⟨by rfl, ?_⟩) (by assumption) ?_
   case refine_2 => (intro w hSw; (try dsimp only [List.getElem_toArray, List.getElem_cons_zero, List.getElem_cons_succ] at hSw ⊢); go_simp; (try with_reducible rfl))
   try simp only [Act.put, List.getElem_toArray, List.getElem_cons_zero, List.getElem_cons_succ, List.setIfInBounds_toArray, List.set_cons_zero, List.set_cons_succ]
   refine wpAnyH_take (i := 1) (oi := _) (v := ?_) rfl (by kernel_rfl) (by kernel_rfl) (by kernel_rfl) (fun _ _ _ h => h) (Or.inl ⟨by rfl, ?_⟩) (by assumption) ?_
   case refine_2 => (intro w hSw; (try dsimp only [List.getElem_toArray, List.getElem_cons_zero, List.getElem_cons_succ] at hSw ⊢); go_simp; (try with_reducible rfl))
   try simp only [Act.put, List.getElem_toArray, List.getElem_cons_zero, List.getElem_cons_succ, List.setIfInBounds_toArray, List.set_cons_zero, List.set_cons_succ]
   refine wpAnyH_take (i := 5) (oi := _) (v := ?_) rfl (by kernel_rfl) (by kernel_rfl) (by kernel_rfl) (fun _ _ _ h => h) (Or.inl ⟨by rfl, ?_⟩) (by assumption) ?_
   case refine_2 => (intro w hSw; (try dsimp only [List.getElem_toArray, List.getElem_cons_zero, List.getElem_cons_succ] at hSw ⊢); go_simp; (try with_reducible rfl))
   try simp only [Act.put, List.getElem_toArray, List.getElem_cons_zero, List.getElem_cons_succ, List.setIfInBounds_toArray, List.set_cons_zero, List.set_cons_succ]
   refine wpAnyH_take (i := 6) (oi := _) (v := ?_) rfl (by kernel_rfl) (by kernel_rfl) (by kernel_rfl) (fun _ _ _ h => h) (Or.inl ⟨by rfl, ?_⟩) (by assumption) ?_
   case refine_2 => (intro w hSw; (try dsimp only [List.getElem_toArray, List.getElem_cons_zero, List.getElem_cons_succ] at hSw ⊢); go_simp; (try with_reducible rfl))
   try simp only [Act.put, List.getElem_toArray, List.getElem_cons_zero, List.getElem_cons_succ, List.setIfInBounds_toArray, List.set_cons_zero, List.set_cons_succ]
   refine wpAnyH_take (i := 10) (oi := _) (v := ?_) rfl (by kernel_rfl) (by kernel_rfl) (by kernel_rfl) (fun _ _ _ h => h) (Or.inl ⟨by rfl, ?_⟩) (by assumption) ?_
   case refine_2 => (intro w hSw; (try dsimp only [List.getElem_toArray, List.getElem_cons_zero, List.getElem_cons_succ] at hSw ⊢); go_simp; (try with_reducible rfl))
   try simp only [Act.put, List.getElem_toArray, List.getElem_cons_zero, List.getElem_cons_succ, List.setIfInBounds_toArray, List.set_cons_zero, List.set_cons_succ]
   refine wpAnyH_take (i := 11) (oi := _) (v := ?_) rfl (by kernel_rfl) (by kernel_rfl) (by kernel_rfl) (fun _ _ _ h => h) (Or.inl ⟨by rfl, ?_⟩) (by assumption) ?_
   case refine_2 => (intro w hSw; (try dsimp only [List.getElem_toArray, List.getElem_cons_zero, List.getElem_cons_succ] at hSw ⊢); go_simp; (try with_reducible rfl))
   try simp only [Act.put, List.getElem_toArray, List.getElem_cons_zero, List.getElem_cons_succ, List.setIfInBounds_toArray, List.set_cons_zero, List.set_cons_succ]
   refine wpAnyH_take (i := 12) (oi := _) (v := ?_) rfl (by kernel_rfl) (by kernel_rfl) (by kernel_rfl) (fun _ _ _ h => h) (Or.inl ⟨by rfl, ?_⟩) (by assumption) ?_
   case refine_2 => (intro w hSw; (try dsimp only [List.getElem_toArray, List.getElem_cons_zero, List.getElem_cons_succ] at hSw ⊢); go_simp; (try with_reducible rfl))
   try simp only [Act.put, List.getElem_toArray, List.getElem_cons_zero, List.getElem_cons_succ, List.setIfInBounds_toArray, List.set_cons_zero, List.set_cons_succ]
   refine wpAnyH_take (i := 16) (oi := _) (v := ?_) rfl (by kernel_rfl) (by kernel_rfl) (by kernel_rfl) (fun _ _ _ h => h) (Or.inl ⟨by rfl, ?_⟩) (by assumption) ?_
   case refine_2 => (intro w hSw; (try dsimp only [List.getElem_toArray, List.getElem_cons_zero, List.getElem_cons_succ] at hSw ⊢); go_simp; (try with_reducible rfl))
   try simp only [Act.put, List.getElem_toArray, List.getElem_cons_zero, List.getElem_cons_succ, List.setIfInBounds_toArray, List.set_cons_zero, List.set_cons_succ]
   refine wpAnyH_take (i := 17) (oi := _) (v := ?_) rfl (by kernel_rfl) (by kernel_rfl) (by kernel_rfl) (fun _ _ _ h => h) (Or.inl ⟨by rfl, ?_⟩) (by assumption) ?_
   case refine_2 => (intro w hSw; (try dsimp only [List.getElem_toArray, List.getElem_cons_zero, List.getElem_cons_succ] at hSw ⊢); go_simp; (try with_reducible rfl))
   try simp only [Act.put, List.getElem_toArray, List.getElem_cons_zero, List.getElem_cons_succ, List.setIfInBounds_toArray, List.set_cons_zero, List.set_cons_succ]
   refine wpAnyH_take (i := 21) (oi := _) (v := ?_) rfl (by kernel_rfl) (by kernel_rfl) (by kernel_rfl) (fun _ _ _ h => h) (Or.inl ⟨by rfl, ?_⟩) (by assumption) ?_
   case refine_2 => (intro w hSw; (try dsimp only [List.getElem_toArray, List.getElem_cons_zero, List.getElem_cons_succ] at hSw ⊢); go_simp; (try with_reducible rfl))
   try simp only [Act.put, List.getElem_toArray, List.getElem_cons_zero, List.getElem_cons_succ, List.setIfInBounds_toArray, List.set_cons_zero, List.set_cons_succ]
   refine wpAnyH_ready (rs := [2]) (by kernel_rfl) (by simp) ?_
   refine (AllReadyH.cons (o := _) (by simp only [List.getElem?_toArray, List.getElem?_cons_zero, List.getElem?_cons_succ]; rfl) (fun K hK => ?_) AllReadyH.nil)
   go_simp
   go_at_call 27
   (with_reducible refine Calls.mono (HD1.out _) ?_)
   rintro e wn ⟨rfl, h⟩
   have HWn := Aside0.mk (HW.out.drew.trans (h.mono HW.out.size))
   clear HW h
   obtain ⟨wm, rfl⟩ : ∃ wz : World, wz = wn := ⟨_, rfl⟩
   have HW := Aside0.mk HWn.out
   clear HWn
   go_wp2_with (fail)
   refine hK.out _ _ ?_ (fun hHeld2 => ?_)
   ·first | exact HS.out _ (HW.out.drew) | exact HS.out _ HW.out | exact HS.out _ (HW.out.trans (HWc.out.mono HW.out.size))
   clear hK K hHeld
   have hHeld := hHeld2
   clear hHeld2
   try simp only [Act.put, List.getElem_toArray, List.getElem_cons_zero, List.getElem_cons_succ, List.setIfInBounds_toArray, List.set_cons_zero, List.set_cons_succ]
   refine wpAnyH_take (i := 3) (oi := _) (v := ?_) rfl (by kernel_rfl) (by kernel_rfl) (by kernel_rfl) (fun _ _ _ h => h) (Or.inl ⟨by rfl, ?_⟩) (by assumption) ?_
   case refine_2 => (intro w hSw; (try dsimp only [List.getElem_toArray, List.getElem_cons_zero, List.getElem_cons_succ] at hSw ⊢); go_simp; (try with_reducible rfl))
   try simp only [Act.put, List.getElem_toArray, List.getElem_cons_zero, List.getElem_cons_succ, List.setIfInBounds_toArray, List.set_cons_zero, List.set_cons_succ]
   refine wpAnyH_take (i := 4) (oi := _) (v := ?_) rfl (by kernel_rfl) (by kernel_rfl) (by kernel_rfl) (fun _ _ _ h => h) (Or.inl ⟨by rfl, ?_⟩) (by assumption) ?_
   case refine_2 => (intro w hSw; (try dsimp only [List.getElem_toArray, List.getElem_cons_zero, List.getElem_cons_succ] at hSw ⊢); go_simp; (try with_reducible rfl))
   try simp only [Act.put, List.getElem_toArray, List.getElem_cons_zero, List.getElem_cons_succ, List.setIfInBounds_toArray, List.set_cons_zero, List.set_cons_succ]
   refine wpAnyH_ready (rs := [7]) (by kernel_rfl) (by simp) ?_
   refine (AllReadyH.cons (o := _) (by simp only [List.getElem?_toArray, List.getElem?_cons_zero, List.getElem?_cons_succ]; rfl) (fun K hK => ?_) AllReadyH.nil)
   go_simp
   go_at_call 27
   (with_reducible refine Calls.mono (HD2.out _) ?_)
   rintro e wn ⟨rfl, h⟩
   have HWn := Aside0.mk (HW.out.trans (h.mono HW.out.size))
   clear HW h
   obtain ⟨wm, rfl⟩ : ∃ wz : World, wz = wn := ⟨_, rfl⟩
   have HW := Aside0.mk HWn.out
   clear HWn
   go_wp2_with (fail)
   refine hK.out _ _ ?_ (fun hHeld2 => ?_)
   ·first | exact HS.out _ (HW.out.drew) | exact HS.out _ HW.out | exact HS.out _ (HW.out.trans (HWc.out.mono HW.out.size))
   clear hK K hHeld
   have hHeld := hHeld2
   clear hHeld2
   try simp only [Act.put, List.getElem_toArray, List.getElem_cons_zero, List.getElem_cons_succ, List.setIfInBounds_toArray, List.set_cons_zero, List.set_cons_succ]
   refine wpAnyH_take (i := 8) (oi := _) (v := ?_) rfl (by kernel_rfl) (by kernel_rfl) (by kernel_rfl) (fun _ _ _ h => h) (Or.inl ⟨by rfl, ?_⟩) (by assumption) ?_
   case refine_2 => (intro w hSw; (try dsimp only [List.getElem_toArray, List.getElem_cons_zero, List.getElem_cons_succ] at hSw ⊢); go_simp; (try with_reducible rfl))
   try simp only [Act.put, List.getElem_toArray, List.getElem_cons_zero, List.getElem_cons_succ, List.setIfInBounds_toArray, List.set_cons_zero, List.set_cons_succ]
   refine wpAnyH_take (i := 9) (oi := _) (v := ?_) rfl (by kernel_rfl) (by kernel_rfl) (by kernel_rfl) (fun _ _ _ h => h) (Or.inl ⟨by rfl, ?_⟩) (by assumption) ?_
   case refine_2 => (intro w hSw; (try dsimp only [List.getElem_toArray, List.getElem_cons_zero, List.getElem_cons_succ] at hSw ⊢); go_simp; (try with_reducible rfl))
   try simp only [Act.put, List.getElem_toArray, List.getElem_cons_zero, List.getElem_cons_succ, List.setIfInBounds_toArray, List.set_cons_zero, List.set_cons_succ]
   refine wpAnyH_ready (rs := [13]) (by kernel_rfl) (by simp) ?_
   refine (AllReadyH.cons (o := _) (by simp only [List.getElem?_toArray, List.getElem?_cons_zero, List.getElem?_cons_succ]; rfl) (fun K hK => ?_) AllReadyH.nil)
   go_simp
   go_at_call 27
   (with_reducible refine Calls.mono (HD3.out _) ?_)
   rintro e wn ⟨rfl, h⟩
   have HWn := Aside0.mk (HW.out.trans (h.mono HW.out.size))
   clear HW h
   obtain ⟨wm, rfl⟩ : ∃ wz : World, wz = wn := ⟨_, rfl⟩
   have HW := Aside0.mk HWn.out
   clear HWn
   go_wp2_with (fail)
   refine hK.out _ _ ?_ (fun hHeld2 => ?_)
   ·first | exact HS.out _ (HW.out.drew) | exact HS.out _ HW.out | exact HS.out _ (HW.out.trans (HWc.out.mono HW.out.size))
   clear hK K hHeld
   have hHeld := hHeld2
   clear hHeld2
   try simp only [Act.put, List.getElem_toArray, List.getElem_cons_zero, List.getElem_cons_succ, List.setIfInBounds_toArray, List.set_cons_zero, List.set_cons_succ]
   refine wpAnyH_take (i := 14) (oi := _) (v := ?_) rfl (by kernel_rfl) (by kernel_rfl) (by kernel_rfl) (fun _ _ _ h => h) (Or.inl ⟨by rfl, ?_⟩) (by assumption) ?_
   case refine_2 => (intro w hSw; (try dsimp only [List.getElem_toArray, List.getElem_cons_zero, List.getElem_cons_succ] at hSw ⊢); go_simp; (try with_reducible rfl))
   try simp only [Act.put, List.getElem_toArray, List.getElem_cons_zero, List.getElem_cons_succ, List.setIfInBounds_toArray, List.set_cons_zero, List.set_cons_succ]
   refine wpAnyH_take (i := 15) (oi := _) (v := ?_) rfl (by kernel_rfl) (by kernel_rfl) (by kernel_rfl) (fun _ _ _ h => h) (Or.inl ⟨by rfl, ?_⟩) (by assumption) ?_
   case refine_2 => (intro w hSw; (try dsimp only [List.getElem_toArray, List.getElem_cons_zero, List.getElem_cons_succ] at hSw ⊢); go_simp; (try with_reducible rfl))
   try simp only [Act.put, List.getElem_toArray, List.getElem_cons_zero, List.getElem_cons_succ, List.setIfInBounds_toArray, List.set_cons_zero, List.set_cons_succ]
   refine wpAnyH_ready (rs := [18]) (by kernel_rfl) (by simp) ?_
   refine (AllReadyH.cons (o := _) (by simp only [List.getElem?_toArray, List.getElem?_cons_zero, List.getElem?_cons_succ]; rfl) (fun K hK => ?_) AllReadyH.nil)
   go_simp
   go_at_call 27
   (with_reducible refine Calls.mono (HD4.out _) ?_)
   rintro e wn ⟨rfl, h⟩
   have HWn := Aside0.mk (HW.out.trans (h.mono HW.out.size))
   clear HW h
   obtain ⟨wm, rfl⟩ : ∃ wz : World, wz = wn := ⟨_, rfl⟩
   have HW := Aside0.mk HWn.out
   clear HWn
   go_wp2_with (fail)
   refine hK.out _ _ ?_ (fun hHeld2 => ?_)
   ·first | exact HS.out _ (HW.out.drew) | exact HS.out _ HW.out | exact HS.out _ (HW.out.trans (HWc.out.mono HW.out.size))
   clear hK K hHeld
   have hHeld := hHeld2
   clear hHeld2
   try simp only [Act.put, List.getElem_toArray, List.getElem_cons_zero, List.getElem_cons_succ, List.setIfInBounds_toArray, List.set_cons_zero, List.set_cons_succ]
   refine wpAnyH_take (i := 19) (oi := _) (v := ?_) rfl (by kernel_rfl) (by kernel_rfl) (by kernel_rfl) (fun _ _ _ h => h) (Or.inl ⟨by rfl, ?_⟩) (by assumption) ?_
   case refine_2 => (intro w hSw; (try dsimp only [List.getElem_toArray, List.getElem_cons_zero, List.getElem_cons_succ] at hSw ⊢); go_simp; (try with_reducible rfl))
   try simp only [Act.put, List.getElem_toArray, List.getElem_cons_zero, List.getElem_cons_succ, List.setIfInBounds_toArray, List.set_cons_zero, List.set_cons_succ]
   refine wpAnyH_take (i := 20) (oi := _) (v := ?_) rfl (by kernel_rfl) (by kernel_rfl) (by kernel_rfl) (fun _ _ _ h => h) (Or.inl ⟨by rfl, ?_⟩) (by assumption) ?_
   case refine_2 => (intro w hSw; (try dsimp only [List.getElem_toArray, List.getElem_cons_zero, List.getElem_cons_succ] at hSw ⊢); go_simp; (try with_reducible rfl))
   try simp only [Act.put, List.getElem_toArray, List.getElem_cons_zero, List.getElem_cons_succ, List.setIfInBounds_toArray, List.set_cons_zero, List.set_cons_succ]
   refine wpAnyH_ready (rs := [22]) (by kernel_rfl) (by simp) ?_
   refine (AllReadyH.cons (o := _) (by simp only [List.getElem?_toArray, List.getElem?_cons_zero, List.getElem?_cons_succ]; rfl) (fun K hK => ?_) AllReadyH.nil)
   go_simp
   go_at_call 28
   (with_reducible refine Calls.mono (HLG.out _ HW.out) ?_)
   rintro e wn ⟨rfl, h⟩
   have HWn := Aside0.mk (HW.out.trans (h.mono HW.out.size))
   clear HW h
   obtain ⟨wm, rfl⟩ : ∃ wz : World, wz = wn := ⟨_, rfl⟩
   have HW := Aside0.mk HWn.out
   clear HWn
   go_wp2_with (fail)
   refine hK.out _ _ ?_ (fun hHeld2 => ?_)
   ·first | exact HS.out _ (HW.out.drew) | exact HS.out _ HW.out | exact HS.out _ (HW.out.trans (HWc.out.mono HW.out.size))
   clear hK K hHeld
   have hHeld := hHeld2
   clear hHeld2
   try simp only [Act.put, List.getElem_toArray, List.getElem_cons_zero, List.getElem_cons_succ, List.setIfInBounds_toArray, List.set_cons_zero, List.set_cons_succ]
   refine wpAnyH_ready (rs := [23]) (by kernel_rfl) (by simp) ?_
   refine (AllReadyH.cons (o := _) (by simp only [List.getElem?_toArray, List.getElem?_cons_zero, List.getElem?_cons_succ]; rfl) (fun K hK => ?_) AllReadyH.nil)
   go_simp
   go_at_call 27
   (with_reducible refine Calls.mono (HD5.out _) ?_)
   rintro e wn ⟨rfl, h⟩
   have HWn := Aside0.mk (HW.out.trans (h.mono HW.out.size))
   clear HW h
   obtain ⟨wm, rfl⟩ : ∃ wz : World, wz = wn := ⟨_, rfl⟩
   have HW := Aside0.mk HWn.out
   clear HWn
   go_wp2_with (fail)
   refine hK.out _ _ ?_ (fun hHeld2 => ?_)
   ·first | exact HS.out _ (HW.out.drew) | exact HS.out _ HW.out | exact HS.out _ (HW.out.trans (HWc.out.mono HW.out.size))
   clear hK K hHeld
   have hHeld := hHeld2
   clear hHeld2
   try simp only [Act.put, List.getElem_toArray, List.getElem_cons_zero, List.getElem_cons_succ, List.setIfInBounds_toArray, List.set_cons_zero, List.set_cons_succ]
   refine wpAnyH_take (i := 24) (oi := _) (v := ?_) rfl (by kernel_rfl) (by kernel_rfl) (by kernel_rfl) (fun _ _ _ h => h) (Or.inl ⟨by rfl, ?_⟩) (by assumption) ?_
   case refine_2 => (intro w hSw; (try dsimp only [List.getElem_toArray, List.getElem_cons_zero, List.getElem_cons_succ] at hSw ⊢); go_simp; (try with_reducible rfl))
   try simp only [Act.put, List.getElem_toArray, List.getElem_cons_zero, List.getElem_cons_succ, List.setIfInBounds_toArray, List.set_cons_zero, List.set_cons_succ]
   refine wpAnyH_take (i := 25) (oi := _) (v := ?_) rfl (by kernel_rfl) (by kernel_rfl) (by kernel_rfl) (fun _ _ _ h => h) (Or.inl ⟨by rfl, ?_⟩) (by assumption) ?_
   case refine_2 => (intro w hSw; (try dsimp only [List.getElem_toArray, List.getElem_cons_zero, List.getElem_cons_succ] at hSw ⊢); go_simp; (try with_reducible rfl))
   try simp only [Act.put, List.getElem_toArray, List.getElem_cons_zero, List.getElem_cons_succ, List.setIfInBounds_toArray, List.set_cons_zero, List.set_cons_succ]
   refine wpAnyH_ready (rs := [26]) (by kernel_rfl) (by simp) ?_
   refine (AllReadyH.cons (o := _) (by simp only [List.getElem?_toArray, List.getElem?_cons_zero, List.getElem?_cons_succ]; rfl) (fun K hK => ?_) AllReadyH.nil)
   go_simp
   have HWc := Aside0.mk (Lib.bytesWorld_below wm 5 (str (B.head b cm)))
   refine hK.out _ _ ?_ (fun hHeld2 => ?_)
   ·first | exact HS.out _ (HW.out.drew) | exact HS.out _ HW.out | exact HS.out _ (HW.out.trans (HWc.out.mono HW.out.size))
   clear hK K hHeld
   have hHeld := hHeld2
   clear hHeld2
   try simp only [Act.put, List.getElem_toArray, List.getElem_cons_zero, List.getElem_cons_succ, List.setIfInBounds_toArray, List.set_cons_zero, List.set_cons_succ]
   refine wpAnyH_take (i := 27) (oi := _) (v := ?_) rfl (by kernel_rfl) (by kernel_rfl) (by kernel_rfl) (fun _ _ _ h => h) (Or.inl ⟨by rfl, ?_⟩) (by assumption) ?_
   case refine_2 => (intro w hSw; (try dsimp only [List.getElem_toArray, List.getElem_cons_zero, List.getElem_cons_succ] at hSw ⊢); go_simp; (try with_reducible rfl))
   try simp only [Act.put, List.getElem_toArray, List.getElem_cons_zero, List.getElem_cons_succ, List.setIfInBounds_toArray, List.set_cons_zero, List.set_cons_succ]
   refine wpAnyH_done (by kernel_rfl) ?_ _
   obtain ⟨hd, hhd⟩ : ∃ hd, hd = B.head b cm := ⟨_, rfl⟩
   rw [← hhd]
   rw [← hhd] at HHL HX
   clear hhd
   obtain ⟨N, hN⟩ : ∃ N, N = (hd ++ cm).length := ⟨_, rfl⟩
   have hX3 := HX.out
   rw [← hN] at hX3
   have HN := Aside0.mk hN
   have HBT := Aside0.mk HW.out
   have HWw := Aside0.mk (HWB.out.trans (H2.out.mono HWB.out.size))
   clear hN
   by_cases hlong : 4096 < N
   ·have HX2 := Aside0.mk (show X = ([], 2) by rw [hX3, if_pos hlong])
    have hl2 : (4096 : Int) < (N : Int) := by omega
    clear hX3
    go_wp2_with (first | ((with_reducible refine gate_builtin (b := .append) (xs := #[.tmp 38, .tmp 39]) rfl ?_); at_builtin; refine conv_append rfl (.tmp 38) (.tmp 39) rfl hd cm A5 _ c5 rfl rfl rfl (HC5.out.on HBT.out) HCP.out (by have := HCL.out; have := HHL.out; omega) N HN.out ?_; intro A9 c9 w9 h h'; have H9 := Aside0.mk h; have H9b := Aside0.mk h'; clear h h'))
    go_ret2
    refine ⟨⟨none, 0, by rw [HX2.out]; rfl, ?_⟩, HWw.out.trans ((HBT.out.trans (H9b.out.mono HBT.out.size)).mono HWw.out.size)⟩
    rw [HX2.out]
    exact Bt.none _
   ·have HX2 := Aside0.mk (show X = (hd ++ cm, 0) by rw [hX3, if_neg hlong])
    have hl2 : (N : Int) ≤ 4096 := by omega
    clear hX3
    go_wp2_with (first | ((with_reducible refine gate_builtin (b := .append) (xs := #[.tmp 38, .tmp 39]) rfl ?_); at_builtin; refine conv_append rfl (.tmp 38) (.tmp 39) rfl hd cm A5 _ c5 rfl rfl rfl (HC5.out.on HBT.out) HCP.out (by have := HCL.out; have := HHL.out; omega) N HN.out ?_; intro A9 c9 w9 h h'; have H9 := Aside0.mk h; have H9b := Aside0.mk h'; clear h h'))
    go_ret2
    refine ⟨⟨A9, c9, by rw [HX2.out, ← HN.out]; rfl, ?_⟩, HWw.out.trans ((HBT.out.trans (H9b.out.mono HBT.out.size)).mono HWw.out.size)⟩
    rw [HX2.out]
    exact H9.out.bt
end Go.Proofs.YtpfmnkpmidjfjaaGreatDoor
/- The reference's end: where the first line's end stands. -/
namespace Go.Proofs.YtpfmnkpmidjfjaaGreatDoor
open Go.RowKit Go.Proofs.YtpfmnkpmidjfjaaGreatDoorW.PrintWords Go.Proofs.YtpfmnkpmidjfjaaGreatDoor.PBundleExact
set_option linter.unusedVariables false
set_option linter.unusedSimpArgs false
def B.rend (b : B.Bs) (i : Nat) : Int := match B.cut (b.drop i) with
 | none => -1
 | some p => ((i + p.1.length : Nat) : Int)
theorem B.rend_next {b : B.Bs} {i : Nat} (hi : i < b.length) (h : ¬ (b.getD i 0 = 13 ∧ b.getD (i + 1) 0 = 10 ∧ i + 1 < b.length)) : B.rend b i = B.rend b (i + 1) := by
 unfold B.rend
 rw [List.drop_eq_getElem_cons hi]
 have e : b[i] = b.getD i 0 := by simp [List.getD, hi]
 have h2 : ¬ (b[i] = 13 ∧ (b.drop (i + 1)).head? = some 10) := by
  rintro ⟨h3, h4⟩
  rw [List.head?_drop] at h4
  refine h ⟨by rw [← e]; exact h3, ?_, ?_⟩
  ·rw [List.getD_eq_getElem?_getD, h4]; rfl
  ·exact (List.getElem?_eq_some_iff.1 h4).1
 rw [B.cut, if_neg h2]
 cases B.cut (b.drop (i + 1)) with
 | none => rfl
 | some p =>
  obtain ⟨x, y⟩ := p
  simp only [List.length_cons]
  omega
theorem B.rend_here {b : B.Bs} {i : Nat} (h1 : b.getD i 0 = 13) (h2 : b.getD (i + 1) 0 = 10) (h3 : i + 1 < b.length) : B.rend b i = (i : Int) := by
 unfold B.rend
 have hi : i < b.length := by omega
 rw [List.drop_eq_getElem_cons hi]
 have e : b[i] = b.getD i 0 := by simp [List.getD, hi]
 have e2 : (b.drop (i + 1)).head? = some 10 := by
  rw [List.head?_drop, List.getElem?_eq_getElem h3]
  have : b[i + 1] = b.getD (i + 1) 0 := by simp [List.getD, h3]
  rw [this, h2]
 rw [B.cut, if_pos ⟨by rw [e]; exact h1, e2⟩]
 rfl
theorem B.rend_off {b : B.Bs} {i : Nat} (h : b.length ≤ i + 1) : B.rend b i = -1 := by
 unfold B.rend
 by_cases hi : i < b.length
 ·rw [List.drop_eq_getElem_cons hi, List.drop_of_length_le h, B.cut, if_neg (by rintro ⟨_, h⟩; cases h)]
  rfl
 ·rw [List.drop_of_length_le (by omega)]
  rfl
theorem byte_eq (x : UInt8) (n : Nat) (hn : n < 256) : ((x.toNat : Int) = (n : Int)) ↔ x = UInt8.ofNat n := by
 constructor
 ·intro h
  have h' : x.toNat = n := by omega
  rw [← h']
  simp
 ·intro h
  rw [h, UInt8.toNat_ofNat']
  have : n % 2 ^ 8 = n := Nat.mod_eq_of_lt hn
  omega
theorem byte_13 (x : UInt8) : ((x.toNat : Int) = 13) ↔ x = 13 := byte_eq x 13 (by decide)
theorem byte_10 (x : UInt8) : ((x.toNat : Int) = 10) ↔ x = 10 := byte_eq x 10 (by decide)
theorem end_l0 (b : B.Bs) (hs : b.length ≤ 900000) : ∀ (m i k : Nat), b.length - i = m → i ≤ b.length → m + 1 ≤ k → wherryref11_end.l0 k (nb b) (i : Int) = some (B.rend b i) := by
 intro m
 induction m with
 | zero =>
  intro i k hm hi hk
  obtain ⟨k, rfl⟩ : ∃ k', k = k' + 1 := ⟨k - 1, by omega⟩
  unfold wherryref11_end.l0
  rw [nb_length, wrap_small _ (by omega) (by omega), if_neg (by omega), B.rend_off (by omega)]
 | succ m ih =>
  intro i k hm hi hk
  obtain ⟨k, rfl⟩ : ∃ k', k = k' + 1 := ⟨k - 1, by omega⟩
  unfold wherryref11_end.l0
  have e1 : ((i : Int) + 1) = ((i + 1 : Nat) : Int) := by omega
  rw [nb_length, wrap_small _ (by omega) (by omega), e1]
  have hn := ih (i + 1) k (by omega) (by omega) (by omega)
  by_cases h1 : i + 1 < b.length
  ·rw [if_pos (by omega), if_pos (by omega), if_pos (by omega), rd_nb, rd_nb]
   by_cases h2 : b.getD i 0 = 13
   ·rw [if_pos ((byte_13 _).2 h2), if_pos (by omega)]
    by_cases h3 : b.getD (i + 1) 0 = 10
    ·rw [if_pos ((byte_10 _).2 h3), B.rend_here h2 h3 h1]
    ·rw [if_neg (fun e => h3 ((byte_10 _).1 e)), hn, B.rend_next (by omega) (fun h => h3 h.2.1)]
   ·rw [if_neg (fun e => h2 ((byte_13 _).1 e)), hn, B.rend_next (by omega) (fun h => h2 h.1)]
  ·rw [if_neg (by omega), B.rend_off (by omega)]
theorem rend_any {A : Option Addr} {c : Nat} {b : B.Bs} {w : World} (hb : Bt w A c b) (hl : b.length ≤ 900000) (i : Nat) (hi : i ≤ b.length) :
  Calls Tryz.prog 37 #[.slice A b.length c, .int .i64 i] w fun e w' => e = .returned (.int .i64 (B.rend b i)) ∧ Below w.heap.size w w' := by
 have h := wherryref11_end.calls (b.length + 1) A c (nb b) i (B.rend b i) w hb.rd (by rw [nb_length]; exact hb.cap) (end_l0 b hl _ i _ rfl hi (by omega))
 rw [nb_length] at h
 exact h.mono (fun e w' h => ⟨h.1, h.2.below⟩)
end Go.Proofs.YtpfmnkpmidjfjaaGreatDoor
/- The reference's dot: where the first line that is just a dot begins. -/
namespace Go.Proofs.YtpfmnkpmidjfjaaGreatDoor
open Go.RowKit Go.Proofs.YtpfmnkpmidjfjaaGreatDoorW.PrintWords Go.Proofs.YtpfmnkpmidjfjaaGreatDoor.PBundleExact
set_option linter.unusedVariables false
set_option linter.unusedSimpArgs false
def B.rdot (b : B.Bs) : Int := match B.dot b with
 | none => -1
 | some n => (n : Int)
theorem drop_two {b : B.Bs} {i : Nat} (h : i + 1 < b.length) : b.drop i = b.getD i 0 :: b.getD (i + 1) 0 :: b.drop (i + 2) := by
 rw [List.drop_eq_getElem_cons (by omega), List.drop_eq_getElem_cons h]
 have e1 : b[i] = b.getD i 0 := by simp [List.getD, (by omega : i < b.length)]
 have e2 : b[i + 1] = b.getD (i + 1) 0 := by simp [List.getD, h]
 rw [e1, e2]
theorem drop_three {b : B.Bs} {i : Nat} (h : i + 2 < b.length) : b.drop i = b.getD i 0 :: b.getD (i + 1) 0 :: b.getD (i + 2) 0 :: b.drop (i + 3) := by
 rw [drop_two (by omega), List.drop_eq_getElem_cons h]
 have e2 : b[i + 2] = b.getD (i + 2) 0 := by simp [List.getD, h]
 rw [e2]
theorem dotAt_iff {b : B.Bs} {i : Nat} (h : i + 2 < b.length) : B.dotAt b i = true ↔ b.getD i 0 = 46 ∧ b.getD (i + 1) 0 = 13 ∧ b.getD (i + 2) 0 = 10 ∧ (i = 0 ∨ 2 ≤ i ∧ b.getD (i - 2) 0 = 13 ∧ b.getD (i - 1) 0 = 10) := by
 unfold B.dotAt
 rw [drop_three h]
 by_cases h2 : 2 ≤ i
 ·rw [drop_two (b := b) (i := i - 2) (by omega), show i - 2 + 1 = i - 1 by omega]
  simp only [List.isPrefixOf, Bool.and_eq_true, Bool.or_eq_true, beq_iff_eq, decide_eq_true_eq, and_true]
  constructor
  ·rintro ⟨⟨a1, a2, a3⟩, a4 | ⟨a4, a5, a6⟩⟩
   ·omega
   ·exact ⟨a1.symm, a2.symm, a3.symm, Or.inr ⟨h2, a5.symm, a6.symm⟩⟩
  ·rintro ⟨a1, a2, a3, a4 | ⟨a4, a5, a6⟩⟩
   ·omega
   ·exact ⟨⟨a1.symm, a2.symm, a3.symm⟩, Or.inr ⟨h2, a5.symm, a6.symm⟩⟩
 ·simp only [List.isPrefixOf, Bool.and_eq_true, Bool.or_eq_true, beq_iff_eq, decide_eq_true_eq, and_true]
  constructor
  ·rintro ⟨⟨a1, a2, a3⟩, a4 | ⟨a4, a5⟩⟩
   ·exact ⟨a1.symm, a2.symm, a3.symm, Or.inl a4⟩
   ·omega
  ·rintro ⟨a1, a2, a3, a4 | ⟨a4, a5, a6⟩⟩
   ·exact ⟨⟨a1.symm, a2.symm, a3.symm⟩, Or.inl a4⟩
   ·omega
theorem byte_46 (x : UInt8) : ((x.toNat : Int) = 46) ↔ x = 46 := byte_eq x 46 (by decide)
theorem rdot_here {b : B.Bs} {i : Nat} (h : B.dotAt b i = true) (hp : ∀ j, j < i → B.dotAt b j = false) : B.rdot b = (i : Int) := by
 unfold B.rdot
 rw [B.dot_at h hp]
theorem dot_l0 (b : B.Bs) (hs : b.length ≤ 900000) : ∀ (m i k : Nat), b.length - i = m → i ≤ b.length → m + 1 ≤ k → (∀ j, j < i → B.dotAt b j = false) → wherryref11_dot.l0 k (nb b) (i : Int) = some (B.rdot b) := by
 intro m
 induction m with
 | zero =>
  intro i k hm hi hk hp
  obtain ⟨k, rfl⟩ : ∃ k', k = k' + 1 := ⟨k - 1, by omega⟩
  unfold wherryref11_dot.l0
  rw [nb_length, wrap_small ((i : Int) + 2) (by omega) (by omega), if_neg (by omega)]
  unfold B.rdot
  rw [B.dot_none (fun j hj => hp j (by omega))]
 | succ m ih =>
  intro i k hm hi hk hp
  obtain ⟨k, rfl⟩ : ∃ k', k = k' + 1 := ⟨k - 1, by omega⟩
  unfold wherryref11_dot.l0
  have e1 : ((i : Int) + 1) = ((i + 1 : Nat) : Int) := by omega
  have e2 : ((i : Int) + 2) = ((i + 2 : Nat) : Int) := by omega
  rw [nb_length, wrap_small ((i : Int) + 1) (by omega) (by omega), wrap_small ((i : Int) + 2) (by omega) (by omega), wrap_small ((i : Int) - 2) (by omega) (by omega), wrap_small ((i : Int) - 1) (by omega) (by omega), e1, e2]
  by_cases h1 : i + 2 < b.length
  ·have hn : B.dotAt b i = false → wherryref11_dot.l0 k (nb b) ((i + 1 : Nat) : Int) = some (B.rdot b) := fun hd => ih (i + 1) k (by omega) (by omega) (by omega) (fun j hj => by
    by_cases hji : j = i
    ·rw [hji]; exact hd
    ·exact hp j (by omega))
   have hq := dotAt_iff h1
   have hno : (¬ (b.getD i 0 = 46 ∧ b.getD (i + 1) 0 = 13 ∧ b.getD (i + 2) 0 = 10 ∧ (i = 0 ∨ 2 ≤ i ∧ b.getD (i - 2) 0 = 13 ∧ b.getD (i - 1) 0 = 10))) → wherryref11_dot.l0 k (nb b) ((i + 1 : Nat) : Int) = some (B.rdot b) := fun h => hn (by
    cases hd : B.dotAt b i with
    | false => rfl
    | true => exact absurd (hq.1 hd) h)
   rw [if_pos (by omega), if_pos (by omega), if_pos (by omega), rd_nb]
   by_cases c1 : b.getD i 0 = 46
   ·rw [if_pos ((byte_46 _).2 c1), if_pos (by omega), if_pos (by omega), rd_nb]
    by_cases c2 : b.getD (i + 1) 0 = 13
    ·rw [if_pos ((byte_13 _).2 c2), if_pos (by omega), rd_nb]
     by_cases c3 : b.getD (i + 2) 0 = 10
     ·rw [if_pos ((byte_10 _).2 c3)]
      by_cases c4 : i = 0
      ·rw [if_pos (by omega), rdot_here (hq.2 ⟨c1, c2, c3, Or.inl c4⟩) hp]
      ·rw [if_neg (by omega)]
       by_cases c5 : 2 ≤ i
       ·have e3 : ((i : Int) - 2) = ((i - 2 : Nat) : Int) := by omega
        have e4 : ((i : Int) - 1) = ((i - 1 : Nat) : Int) := by omega
        rw [if_pos (by omega), if_pos (by omega), if_pos (by omega), e3, e4, rd_nb, rd_nb]
        by_cases c6 : b.getD (i - 2) 0 = 13
        ·rw [if_pos ((byte_13 _).2 c6), if_pos (by omega), if_pos (by omega)]
         by_cases c7 : b.getD (i - 1) 0 = 10
         ·rw [if_pos ((byte_10 _).2 c7), rdot_here (hq.2 ⟨c1, c2, c3, Or.inr ⟨c5, c6, c7⟩⟩) hp]
         ·rw [if_neg (fun e => c7 ((byte_10 _).1 e))]
          exact hno (fun h => h.2.2.2.elim (fun e => c4 e) (fun e => c7 e.2.2))
        ·rw [if_neg (fun e => c6 ((byte_13 _).1 e))]
         exact hno (fun h => h.2.2.2.elim (fun e => c4 e) (fun e => c6 e.2.1))
       ·rw [if_neg (by omega)]
        exact hno (fun h => h.2.2.2.elim (fun e => c4 e) (fun e => c5 e.1))
     ·rw [if_neg (fun e => c3 ((byte_10 _).1 e))]
      exact hno (fun h => c3 h.2.2.1)
    ·rw [if_neg (fun e => c2 ((byte_13 _).1 e))]
     exact hno (fun h => c2 h.2.1)
   ·rw [if_neg (fun e => c1 ((byte_46 _).1 e))]
    exact hno (fun h => c1 h.1)
  ·rw [if_neg (by omega)]
   unfold B.rdot
   rw [B.dot_none (fun j hj => hp j (by omega))]
end Go.Proofs.YtpfmnkpmidjfjaaGreatDoor
/- The reference's number, in plain Lean. No Go. -/
namespace Go.Proofs.YtpfmnkpmidjfjaaGreatDoor.B
set_option linter.unusedVariables false
set_option linter.unusedSimpArgs false
def nstep (n : Nat) (c : UInt8) : Nat := n * 10 + (c.toNat - 48)
def dval (l : Bs) : Nat := l.foldl nstep 0
def digs (l : Bs) : Bool := l.all fun c => decide (48 ≤ c.toNat) && decide (c.toNat ≤ 57)
def rnum (l : Bs) : Option Nat := if l ≠ [] ∧ l.length ≤ 10 ∧ ¬ (1 < l.length ∧ l.head? = some 48) ∧ digs l = true then some (dval l) else none
theorem decFrom_digs : ∀ (l : Bs) (acc : Nat), digs l = true → Lib.decFrom acc l = some (l.foldl nstep acc)
 | [], acc, _ => rfl
 | c :: l, acc, h => by
  unfold digs at h
  rw [List.all_cons, Bool.and_eq_true, Bool.and_eq_true, decide_eq_true_eq, decide_eq_true_eq] at h
  rw [Lib.decFrom, Lib.digitVal, if_pos h.1]
  exact decFrom_digs l _ h.2
theorem dval_snoc (l : Bs) (c : UInt8) : dval (l ++ [c]) = dval l * 10 + (c.toNat - 48) := by
 unfold dval
 rw [List.foldl_append]
 rfl
theorem digs_snoc (l : Bs) (c : UInt8) : digs (l ++ [c]) = true ↔ digs l = true ∧ 48 ≤ c.toNat ∧ c.toNat ≤ 57 := by
 unfold digs
 rw [List.all_append]
 simp
theorem digit_of (c : UInt8) (h : 48 ≤ c.toNat ∧ c.toNat ≤ 57) : UInt8.ofNat (48 + (c.toNat - 48)) = c := by
 rw [show 48 + (c.toNat - 48) = c.toNat by omega]
 simp
theorem decDigits_snoc (n d : Nat) (hn : 1 ≤ n) (hd : d < 10) : Lib.decDigits (n * 10 + d) = Lib.decDigits n ++ [UInt8.ofNat (48 + d)] := by
 rw [Lib.decDigits, dif_neg (by omega), show (n * 10 + d) / 10 = n by omega, show (n * 10 + d) % 10 = d by omega]
theorem canon_big : ∀ (n : Nat) (l : Bs), l.length = n → l ≠ [] → digs l = true → l.head? ≠ some 48 → 1 ≤ dval l ∧ Lib.decDigits (dval l) = l := by
 intro n
 induction n with
 | zero => intro l h h1; exact absurd (List.eq_nil_of_length_eq_zero h) h1
 | succ n ih =>
  intro l h h1 h2 h3
  obtain ⟨m, c, rfl⟩ : ∃ m c, l = m ++ [c] := ⟨l.dropLast, l.getLast h1, (List.dropLast_concat_getLast h1).symm⟩
  rw [digs_snoc] at h2
  rw [List.length_append] at h
  have hm : m.length = n := by simpa using h
  by_cases hm0 : m = []
  ·subst hm0
   have hc : c ≠ 48 := fun e => h3 (by rw [e]; rfl)
   have hcn : c.toNat ≠ 48 := fun e => hc (by rw [← digit_of c h2.2, e]; rfl)
   have e : dval ([] ++ [c]) = c.toNat - 48 := by rw [dval_snoc]; show 0 * 10 + _ = _; omega
   rw [e]
   refine ⟨by omega, ?_⟩
   rw [Lib.decDigits_one (by omega), digit_of c h2.2]
   rfl
  ·have hh : m.head? ≠ some 48 := fun e => h3 (by
    cases m with
    | nil => exact absurd rfl hm0
    | cons x t => exact e)
   obtain ⟨i1, i2⟩ := ih m hm hm0 h2.1 hh
   rw [dval_snoc]
   refine ⟨by omega, ?_⟩
   rw [decDigits_snoc _ _ i1 (by omega), i2, digit_of c h2.2]
theorem canon (l : Bs) (h0 : l ≠ []) (h1 : ¬ (1 < l.length ∧ l.head? = some 48)) (h2 : digs l = true) : Lib.decDigits (dval l) = l := by
 by_cases h3 : l.head? = some 48
 ·cases l with
  | nil => exact absurd rfl h0
  | cons x t =>
   have hx : x = 48 := Option.some.inj h3
   cases t with
   | nil => subst hx; decide +kernel
   | cons y u => exact absurd ⟨by simp, h3⟩ h1
 ·exact (canon_big _ l rfl h0 h2 h3).2
theorem digits_digs : ∀ M : Nat, digs (Lib.decDigits M) = true := by
 intro M
 induction M using Nat.strongRecOn with
 | _ M ih =>
  rw [Lib.decDigits]
  split
  ·rename_i h
   have : ∀ M : Nat, M < 10 → digs [UInt8.ofNat (48 + M)] = true := by decide
   exact this M h
  ·rename_i h
   rw [digs_snoc]
   have : ∀ d : Nat, d < 10 → 48 ≤ (UInt8.ofNat (48 + d)).toNat ∧ (UInt8.ofNat (48 + d)).toNat ≤ 57 := by decide
   exact ⟨ih (M / 10) (by omega), this _ (by omega)⟩
theorem digits_head : ∀ M : Nat, 1 ≤ M → (Lib.decDigits M).head? ≠ some 48 := by
 intro M
 induction M using Nat.strongRecOn with
 | _ M ih =>
  intro h1
  rw [Lib.decDigits]
  split
  ·rename_i h
   intro e
   have e2 : UInt8.ofNat (48 + M) = 48 := Option.some.inj e
   have : ∀ M : Nat, M < 10 → 1 ≤ M → UInt8.ofNat (48 + M) ≠ 48 := by decide
   exact this M h h1 e2
  ·rename_i h
   have := ih (M / 10) (by omega) (by omega)
   cases hd : Lib.decDigits (M / 10) with
   | nil => exact absurd hd (digits_ne _)
   | cons x t =>
    rw [hd] at this
    exact this
theorem number_rnum (l : Bs) : number l = (rnum l).map fun n : Nat => (n : Int) := by
 unfold rnum
 split
 ·rename_i h
  obtain ⟨h0, h1, h2, h3⟩ := h
  have hc := canon l h0 h2 h3
  have ha : Lib.atoiAll l = .ok (dval l : Int) := by
   rw [Lib.atoiAll_short l (by omega)]
   have : Lib.atoi l = some ((dval l : Nat) : Int) := by
    cases l with
    | nil => exact absurd rfl h0
    | cons x t =>
     have hx := h3
     unfold digs at hx
     rw [List.all_cons, Bool.and_eq_true, Bool.and_eq_true, decide_eq_true_eq, decide_eq_true_eq] at hx
     have n45 : (x == 45) = false := by
      rw [beq_eq_false_iff_ne]
      intro e
      rw [e] at hx
      exact absurd hx.1.1 (by decide)
     have n43 : (x == 43) = false := by
      rw [beq_eq_false_iff_ne]
      intro e
      rw [e] at hx
      exact absurd hx.1.1 (by decide)
     unfold Lib.atoi
     simp only [n45, n43, Bool.false_eq_true, if_false]
     unfold Lib.decNat
     rw [if_neg (by simp), decFrom_digs _ _ h3]
     rfl
   rw [this]
   rfl
  unfold number
  rw [ha]
  simp only
  rw [if_pos ⟨by omega, h1, by rw [itoa_nat]; exact hc⟩]
  rfl
 ·rename_i h
  show number l = none
  cases hn : number l with
  | none => rfl
  | some v =>
   refine absurd ?_ h
   unfold number at hn
   cases ha : Lib.atoiAll l with
   | ok u =>
    rw [ha] at hn
    simp only at hn
    by_cases hq : 0 ≤ u ∧ l.length ≤ 10 ∧ Lib.itoa u = l
    ·obtain ⟨h0, h1, h2⟩ := hq
     obtain ⟨M, rfl⟩ : ∃ M : Nat, u = M := ⟨u.toNat, by omega⟩
     rw [itoa_nat] at h2
     subst h2
     refine ⟨digits_ne _, h1, ?_, digits_digs M⟩
     rintro ⟨h3, h4⟩
     by_cases hM : M = 0
     ·subst hM
      have e : Lib.decDigits 0 = [48] := by decide +kernel
      rw [e] at h3
      exact absurd h3 (by decide)
     ·exact digits_head M (by omega) h4
    ·rw [if_neg hq] at hn
     cases hn
   | _ => rw [ha] at hn; cases hn
end Go.Proofs.YtpfmnkpmidjfjaaGreatDoor.B
/- The reference's number. -/
namespace Go.Proofs.YtpfmnkpmidjfjaaGreatDoor
open Go.RowKit Go.Proofs.YtpfmnkpmidjfjaaGreatDoorW.PrintWords Go.Proofs.YtpfmnkpmidjfjaaGreatDoor.PBundleExact
set_option linter.unusedVariables false
set_option linter.unusedSimpArgs false
theorem byte_48 (x : UInt8) : ((x.toNat : Int) = 48) ↔ x = 48 := byte_eq x 48 (by decide)
theorem dig_nat (c : UInt8) : isDig c = (decide (48 ≤ c.toNat) && decide (c.toNat ≤ 57)) := by
 unfold isDig
 rw [Bool.decide_and]
 congr 1
theorem digs_drop (l : B.Bs) (i : Nat) (hi : i < l.length) : B.digs (l.drop i) = (isDig (l.getD i 0) && B.digs (l.drop (i + 1))) := by
 rw [drop_getD l i hi]
 unfold B.digs
 rw [List.all_cons]
 congr 1
 exact (dig_nat _).symm
theorem isDig_of {c : UInt8} (h : isDig c = true) : 48 ≤ c.toNat ∧ c.toNat ≤ 57 := by
 rw [dig_nat, Bool.and_eq_true, decide_eq_true_eq, decide_eq_true_eq] at h
 exact h
theorem number_l0 (s : ByteArray) (hs : s.size ≤ 10) : ∀ (m i k n : Nat), s.size - i = m → i ≤ s.size → m + 1 ≤ k → n < 10 ^ i →
  wherryref11_number.l0 k s (n : Int) (i : Int) = some (if B.digs ((lst s).drop i) = true then ((((lst s).drop i).foldl B.nstep n : Nat) : Int) else -1) := by
 intro m
 induction m with
 | zero =>
  intro i k n hm hi hk hn
  obtain ⟨k, rfl⟩ : ∃ k', k = k' + 1 := ⟨k - 1, by omega⟩
  unfold wherryref11_number.l0
  rw [if_neg (by omega), List.drop_of_length_le (by rw [lst_length]; omega)]
  rfl
 | succ m ih =>
  intro i k n hm hi hk hn
  obtain ⟨k, rfl⟩ : ∃ k', k = k' + 1 := ⟨k - 1, by omega⟩
  have hil : i < (lst s).length := by rw [lst_length]; omega
  have q1 : s.size - (i + 1) = m := by omega
  have q2 : i + 1 ≤ s.size := by omega
  have q3 : m + 1 ≤ k := by omega
  have q4 : i ≤ 9 := by omega
  unfold wherryref11_number.l0
  rw [if_pos (by omega), if_pos (by omega), bt_lst, digit_f]
  show (if isDig ((lst s).getD i 0) = true then _ else _) = _
  rw [digs_drop _ _ hil]
  by_cases hd : isDig ((lst s).getD i 0) = true
  ·rw [if_pos hd, hd, Bool.true_and, drop_getD (lst s) i hil]
   have hc := isDig_of hd
   generalize hcc : (lst s).getD i 0 = c at hc
   have hp : (10 : Nat) ^ i ≤ 1000000000 := Nat.pow_le_pow_right (by decide) q4
   have hnn : n < 1000000000 := Nat.lt_of_lt_of_le hn hp
   have hnx : B.nstep n c < 10 ^ (i + 1) := by
    rw [Nat.pow_succ]
    unfold B.nstep
    clear hp hnn
    generalize (10 : Nat) ^ i = p at hn
    omega
   clear hp hn
   have e1 : wrap64 (10 * (n : Int)) = 10 * (n : Int) := IntWalk.wrap64_in _ (by omega)
   have e2 : wrap64 (10 * (n : Int) + ((c.toNat : Int) - 48) % 256) = ((B.nstep n c : Nat) : Int) := by
    unfold B.nstep
    rw [IntWalk.wrap64_in _ (by omega)]
    omega
   have e3 : wrap64 ((i : Int) + 1) = ((i + 1 : Nat) : Int) := by rw [wrap_small _ (by omega) (by omega)]; omega
   rw [e1, e2, e3, ih (i + 1) k _ q1 q2 q3 hnx]
   rfl
  ·rw [if_neg hd]
   have hf : isDig ((lst s).getD i 0) = false := by simpa using hd
   rw [hf, Bool.false_and, if_neg (by decide)]
theorem ref_number (s : ByteArray) (k : Nat) (hs : s.size ≤ 100000) (hk : s.size + 2 ≤ k) : wherryref11_number.f k s 10 = some (match B.rnum (lst s) with | none => -1 | some n => (n : Int)) := by
 have hj : ∀ x : Bool, 1 ≤ s.size → s.size ≤ 10 → (x = true ↔ (1 < (lst s).length ∧ (lst s).head? = some 48)) → wherryref11_number.j0 k s x = some (match B.rnum (lst s) with | none => -1 | some n => (n : Int)) := by
  intro x h1 h2 hx
  have hne : lst s ≠ [] := fun e => by have h3 := congrArg List.length e; rw [lst_length] at h3; have h4 : s.size = 0 := h3; omega
  obtain ⟨k, rfl⟩ : ∃ k', k = k' + 1 := ⟨k - 1, by omega⟩
  unfold wherryref11_number.j0
  show (if x = true then some (-1) else wherryref11_number.l0 k s 0 0) = _
  unfold B.rnum
  by_cases h3 : x = true
  ·rw [if_pos h3, if_neg (fun h => h.2.2.1 (hx.1 h3))]
  ·rw [if_neg h3]
   have := number_l0 s h2 _ 0 k 0 rfl (Nat.zero_le _) (by omega) (by decide)
   rw [List.drop_zero] at this
   refine Eq.trans this ?_
   by_cases hd : B.digs (lst s) = true
   ·rw [if_pos hd, if_pos ⟨hne, by rw [lst_length]; omega, fun h => h3 (hx.2 h), hd⟩]
    rfl
   ·rw [if_neg hd, if_neg (fun h => hd h.2.2.2)]
 unfold wherryref11_number.f
 rw [in_f]
 show (if decide ((1 : Int) ≤ (s.size : Int) ∧ (s.size : Int) ≤ 10) = true then _ else _) = _
 by_cases h : 1 ≤ s.size ∧ s.size ≤ 10
 ·rw [if_pos (by simp; omega)]
  by_cases h1 : 1 < s.size
  ·rw [if_pos (by omega), if_pos (by omega)]
   refine hj _ h.1 h.2 ?_
   have := bt_lst s 0
   rw [show ((0 : Nat) : Int) = 0 from rfl] at this
   rw [this, beq_iff_eq, lst_length]
   cases hl : lst s with
   | nil => have h3 := congrArg List.length hl; rw [lst_length] at h3; have h4 : s.size = 0 := h3; omega
   | cons y t =>
    show ((y.toNat : Int) = 48) ↔ _ ∧ some y = some 48
    rw [byte_48 y, Option.some.injEq]
    exact ⟨fun e => ⟨h1, e⟩, fun e => e.2⟩
  ·rw [if_neg (by omega)]
   refine hj _ h.1 h.2 ?_
   rw [lst_length]
   exact ⟨fun e => (by cases e), fun e => absurd e.1 h1⟩
 ·rw [if_neg (by simp; omega)]
  obtain ⟨k, rfl⟩ : ∃ k', k = k' + 1 := ⟨k - 1, by omega⟩
  unfold wherryref11_number.j0
  show (if true = true then some (-1) else wherryref11_number.l0 k s 0 0) = _
  rw [if_pos rfl]
  unfold B.rnum
  rw [if_neg]
  rintro ⟨h1, h2, _⟩
  rw [lst_length] at h2
  refine h ⟨?_, h2⟩
  have := List.length_pos_iff.2 h1
  rw [lst_length] at this
  exact this
theorem rnumber_any (l : B.Bs) (w : World) (hl : l.length ≤ 100000) : Calls Tryz.prog 39 #[.string (str l), .int .i64 10] w fun e w' => e = .returned (.int .i64 (match B.number l with | none => -1 | some v => v)) ∧ Below w.heap.size w w' := by
 have h := wherryref11_number.calls ((str l).size + 2) (str l) 10 _ w (ref_number (str l) _ (by rw [str_size]; exact hl) (Nat.le_refl _))
 refine h.mono (fun e w' h => ⟨?_, h.2.below⟩)
 rw [h.1, B.number_rnum, lst_str]
 cases B.rnum l <;> rfl
end Go.Proofs.YtpfmnkpmidjfjaaGreatDoor
/- The reference's words. -/
namespace Go.Proofs.YtpfmnkpmidjfjaaGreatDoor
open Go.RowKit Go.Proofs.YtpfmnkpmidjfjaaGreatDoorW.PrintWords Go.Proofs.YtpfmnkpmidjfjaaGreatDoor.PBundleExact
set_option linter.unusedVariables false
set_option linter.unusedSimpArgs false
theorem byte_32 (x : UInt8) : ((x.toNat : Int) = 32) ↔ x = 32 := byte_eq x 32 (by decide)
theorem words_l0 (s : ByteArray) (hs : s.size ≤ 100000) : ∀ (m i fr k : Nat) (ws : List ByteArray), s.size - i = m → i ≤ s.size → fr ≤ i → ws.length ≤ i → m + 2 ≤ k → (∀ x ∈ ((lst s).drop fr).take (i - fr), x ≠ 32) →
  wherryref11_words.l0 k s ws (fr : Int) (i : Int) = some (ws ++ (V.splitOn 32 ((lst s).drop fr)).map str) := by
 intro m
 induction m with
 | zero =>
  intro i fr k ws hm hi hf hw hk hno
  have e0 : i = s.size := by omega
  obtain ⟨k, rfl⟩ : ∃ k', k = k' + 2 := ⟨k - 2, by omega⟩
  have eL : ((lst s).drop fr).take (i - fr) = (lst s).drop fr := List.take_of_length_le (by rw [List.length_drop, lst_length]; omega)
  have e1 : wrap64 ((i : Int) + 1) = ((i + 1 : Nat) : Int) := by rw [wrap_small _ (by omega) (by omega)]; omega
  have e2 : s.extract ((fr : Nat) : Int).toNat ((i : Nat) : Int).toNat = str ((lst s).drop fr) := by rw [Int.toNat_natCast, Int.toNat_natCast, ext_mid, eL]
  have q1 : (i : Int) ≤ (s.size : Int) := by omega
  have q2 : (i : Int) = (s.size : Int) := by omega
  have q3 : (0 : Int) ≤ (fr : Int) := by omega
  have q4 : (fr : Int) ≤ (i : Int) := by omega
  have q5 : ws.length < 8796093022208 := by omega
  have q6 : ¬ (((i + 1 : Nat) : Int) ≤ (s.size : Int)) := by omega
  rw [wherryref11_words.l0, if_pos q1, if_pos q2, if_pos q3, if_pos q4, if_pos q5, e1, e2, wherryref11_words.l0, if_neg q6]
  rw [eL] at hno
  rw [splitOn_none 32 _ hno]
  rfl
 | succ m ih =>
  intro i fr k ws hm hi hf hw hk hno
  obtain ⟨k, rfl⟩ : ∃ k', k = k' + 1 := ⟨k - 1, by omega⟩
  have hil : i < (lst s).length := by rw [lst_length]; omega
  have e1 : wrap64 ((i : Int) + 1) = ((i + 1 : Nat) : Int) := by rw [wrap_small _ (by omega) (by omega)]; omega
  have e2 : s.extract ((fr : Nat) : Int).toNat ((i : Nat) : Int).toNat = str (((lst s).drop fr).take (i - fr)) := by rw [Int.toNat_natCast, Int.toNat_natCast, ext_mid]
  have q1 : (i : Int) ≤ (s.size : Int) := by omega
  have q2 : ¬ ((i : Int) = (s.size : Int)) := by omega
  have q3 : (0 : Int) ≤ (fr : Int) := by omega
  have q4 : (fr : Int) ≤ (i : Int) := by omega
  have q5 : ws.length < 8796093022208 := by omega
  have q6 : (0 : Int) ≤ (i : Int) := by omega
  have q7 : (i : Int) < (s.size : Int) := by omega
  rw [wherryref11_words.l0, if_pos q1, if_neg q2, if_pos q6, if_pos q7, bt_lst]
  have hseg := dom_seg (lst s) fr i hf (by omega)
  by_cases hc : (lst s).getD i 0 = 32
  ·rw [if_pos ((byte_32 _).2 hc), if_pos q3, if_pos q4, if_pos q5, e1, e2]
   have hn := ih (i + 1) (i + 1) k (ws ++ [str (((lst s).drop fr).take (i - fr))]) (by omega) (by omega) (Nat.le_refl _) (by rw [List.length_append]; simp; omega) (by omega) (by intro x hx; rw [Nat.sub_self, List.take_zero] at hx; cases hx)
   rw [hn, hseg, drop_getD (lst s) i hil, hc, splitOn_app 32 _ _ hno, List.map_cons, List.append_assoc]
   rw [← hc, ← drop_getD (lst s) i hil, ← hseg]
   rfl
  ·rw [if_neg (fun e => hc ((byte_32 _).1 e)), e1]
   refine ih (i + 1) fr k ws (by omega) (by omega) (by omega) (by omega) (by omega) ?_
   intro x hx
   have e3 : ((lst s).drop fr).take (i + 1 - fr) = ((lst s).drop fr).take (i - fr) ++ [(lst s).getD i 0] := by
    rw [show i + 1 - fr = (i - fr) + 1 by omega, List.take_add_one]
    congr 1
    rw [List.getElem?_drop, show fr + (i - fr) = i by omega, List.getElem?_eq_getElem hil]
    simp [List.getD, hil]
   rw [e3, List.mem_append] at hx
   rcases hx with hx | hx
   ·exact hno x hx
   ·rw [List.mem_singleton] at hx
    rw [hx]
    exact hc
theorem ref_words (s : ByteArray) (hs : s.size ≤ 100000) : wherryref11_words.f (s.size + 2) s = some ((V.splitOn 32 (lst s)).map str) := by
 have h := words_l0 s hs _ 0 0 (s.size + 2) [] rfl (Nat.zero_le _) (Nat.le_refl _) (Nat.le_refl _) (by omega) (by intro x hx; cases hx)
 rw [List.drop_zero, List.nil_append] at h
 exact h
end Go.Proofs.YtpfmnkpmidjfjaaGreatDoor
/- The reference's cutAhead. -/
namespace Go.Proofs.YtpfmnkpmidjfjaaGreatDoor
open Go.RowKit Go.Lib
open Go.Proofs.YtpfmnkpmidjfjaaGreatDoorW.PrintWords
set_option linter.unusedVariables false
set_option linter.unusedSimpArgs false
set_option maxRecDepth 100000 in
set_option maxHeartbeats 4000000 in
theorem rcut_str (a0 a1 : ByteArray) (w : World) : Calls Tryz.prog 64 #[.string a0, .string a1] w fun e w' =>
  e = .returned (if a1.size ≤ a0.size ∧ (a0.extract 0 a1.size).toList = a1.toList then .tuple #[.string (a0.extract a1.size a0.size), .bool true] else .tuple #[.string ⟨#[]⟩, .bool false]) ∧ Drawn0 w w' := by
 by_cases c3 : a0.size < a1.size
 ·rw [if_neg (fun h => by omega)]
  have c3b0 : decide ((a0.size : Int) < (a1.size : Int)) = true := decide_eq_true (by omega)
  have c3b1 : decide (a0.size < a1.size) = true := decide_eq_true c3
  go_enter Tryz.func64, Tryz.ntmps64
  go_wp2
  all_goals
   go_ret2
   exact ⟨rfl, by repeat (first | exact Drawn0.refl _ | apply Drawn0.step)⟩
 ·have c3b0 : decide ((a0.size : Int) < (a1.size : Int)) = false := decide_eq_false (by omega)
  have c3b1 : decide (a0.size < a1.size) = false := decide_eq_false c3
  have c5b0 : ((a1.size : Int) ≤ (a0.size : Int)) = True := eq_true (by omega)
  have c5b1 : decide ((a1.size : Int) ≤ (a0.size : Int)) = true := decide_eq_true (by omega)
  have c5b2 : (a1.size ≤ a0.size) = True := eq_true (by omega)
  have c4b0 : ((0 : Int) ≤ (a1.size : Int)) = True := eq_true (by omega)
  by_cases c6 : (a0.extract 0 a1.size).toList = a1.toList
  ·rw [if_pos ⟨by omega, c6⟩]
   have c6b0 : ((a0.extract 0 a1.size).toList == a1.toList) = true := beq_iff_eq.mpr c6
   clear c6 c3
   go_enter Tryz.func64, Tryz.ntmps64
   go_wp2
   all_goals
    go_ret2
    exact ⟨rfl, by repeat (first | exact Drawn0.refl _ | apply Drawn0.step)⟩
  ·rw [if_neg (fun h => c6 h.2)]
   have c6b0 : ((a0.extract 0 a1.size).toList == a1.toList) = false := beq_eq_false_iff_ne.mpr c6
   clear c6 c3
   go_enter Tryz.func64, Tryz.ntmps64
   go_wp2
   all_goals
    go_ret2
    exact ⟨rfl, by repeat (first | exact Drawn0.refl _ | apply Drawn0.step)⟩
end Go.Proofs.YtpfmnkpmidjfjaaGreatDoor
/- The reference's cutAhead, over lists. -/
namespace Go.Proofs.YtpfmnkpmidjfjaaGreatDoor
open Go.RowKit Go.Proofs.YtpfmnkpmidjfjaaGreatDoorW.PrintWords
set_option linter.unusedVariables false
set_option linter.unusedSimpArgs false
theorem rcut_any (s p : B.Bs) (w : World) : Calls Tryz.prog 64 #[.string (str s), .string (str p)] w fun e w' =>
  e = .returned (if p.isPrefixOf s = true then .tuple #[.string (str (s.drop p.length)), .bool true] else .tuple #[.string (str []), .bool false]) ∧ Below w.heap.size w w' := by
 refine (rcut_str (str s) (str p) w).mono (fun e w' h => ⟨?_, h.2.below⟩)
 rw [h.1]
 have e1 : ((str s).extract 0 (str p).size).toList = s.take p.length := by rw [ext_take, toList_lst, lst_str, lst_str, str_size]
 have e2 : (str p).toList = p := by rw [toList_lst, lst_str]
 have e3 : (str s).extract (str p).size (str s).size = str (s.drop p.length) := by rw [ext_drop, lst_str, str_size]
 rw [e1, e2, e3, str_size, str_size]
 by_cases hp : p.isPrefixOf s = true
 ·have h1 := List.isPrefixOf_iff_prefix.1 hp
  have h2 := List.prefix_iff_eq_take.1 h1
  rw [if_pos hp, if_pos ⟨h1.length_le, h2.symm⟩]
 ·rw [if_neg hp, if_neg]
  ·rfl
  ·rintro ⟨h1, h2⟩
   exact hp (List.isPrefixOf_iff_prefix.2 (List.prefix_iff_eq_take.2 h2.symm))
end Go.Proofs.YtpfmnkpmidjfjaaGreatDoor
/- The reference's Parse: the walk. -/
namespace Go.Proofs.YtpfmnkpmidjfjaaGreatDoor
open Go.RowKit Go.Lib
open Go.Proofs.YtpfmnkpmidjfjaaGreatDoorW.PrintWords Go.Proofs.YtpfmnkpmidjfjaaGreatDoorW.PrintLast Go.Proofs.YtpfmnkpmidjfjaaGreatDoorW.PrintMore
set_option linter.unusedVariables false
set_option linter.unusedSimpArgs false
def rpres (o : Option V.Path) : Value := .tuple #[pval (o.getD V.noPath), .bool o.isSome]
theorem eq_const (s : ByteArray) (L : List UInt8) (b : V.Bs) (hb : b = L) : (s.toList == L) = decide (lst s = b) := by
 subst hb
 rw [ByteArray.toList_eq]
 show (lst s == b) = _
 rw [Bool.eq_iff_iff]; simp
theorem slice_to (s : ByteArray) (n : Nat) (h : n ≤ s.size) (X : ByteArray) (hX : X = str ((lst s).take n)) (w : World) : (Instr.slice 9 (.string s) none (some (.int .i64 (n : Int))) none).run Tryz.prog w = .ok (.string X) w := by
 rw [run_slice_string_to_if w 9 s .i64 (n : Int) Tryz.underlying9, if_pos (by omega)]
 subst hX
 have e : s.extract 0 (n : Int).toNat = str ((lst s).take n) := by
  rw [← str_lst (s.extract 0 (n : Int).toNat)]
  congr 1
  simp [lst, ByteArray.data_extract]
 rw [e]
theorem vcut_no (c : UInt8) (l : V.Bs) (h : ∀ j, j < l.length → l.getD j 0 ≠ c) : V.cutAt c l = none := by
 rw [V.cutAt_none]
 intro hm
 obtain ⟨j, hj, e⟩ := List.getElem_of_mem hm
 refine h j hj ?_
 rw [List.getD_eq_getElem?_getD, List.getElem?_eq_getElem hj]
 exact e
theorem vcut_take (c : UInt8) : ∀ (l : V.Bs) (i : Nat), i < l.length → l.getD i 0 = c → (∀ j, j < i → l.getD j 0 ≠ c) → V.cutAt c l = some (l.take i, l.drop (i + 1))
 | [], i, h, _, _ => by simp at h
 | x :: l, 0, _, h, _ => by
  have hx : x = c := h
  simp [V.cutAt, hx]
 | x :: l, i + 1, hi, h, hn => by
  have hx : x ≠ c := hn 0 (by omega)
  unfold V.cutAt
  rw [if_neg hx, vcut_take c l i (by simpa using hi) (by simpa using h) (fun j hj => by simpa using hn (j + 1) (by omega))]
  rfl
theorem slice_from (s : ByteArray) (n : Nat) (h : n ≤ s.size) (X : ByteArray) (hX : X = str ((lst s).drop n)) (w : World) : (Instr.slice 9 (.string s) (some (.int .i64 (n : Int))) none none).run Tryz.prog w = .ok (.string X) w := by
 rw [run_slice_string_from_if w 9 s .i64 (n : Int) Tryz.underlying9, if_pos (by omega)]
 subst hX
 have e : s.extract (n : Int).toNat s.size = str ((lst s).drop n) := by
  rw [← str_lst (s.extract (n : Int).toNat s.size)]
  congr 1
  have hl := lst_length s
  unfold lst at hl
  simp [lst, ByteArray.data_extract]
  rw [List.take_of_length_le]
  simp
 rw [e]
theorem rpath2_any (p : V.Path) (w : World) (h1 : p.loc.length ≤ 60000) (h2 : p.dom.length ≤ 60000) :
  Calls Tryz.prog 74 #[.agg #[.bool p.null, .string (str p.loc), .string (str p.dom)]] w fun e w' => e = .returned (.bool (V.check p)) ∧ Below w.heap.size w w' :=
 rpath_any p w ⟨by omega, by omega⟩
theorem rkeep_any (n b : Bool) (l d : ByteArray) (w : World) :
  Calls Tryz.prog 89 #[.agg #[.bool n, .string l, .string d], .bool b] w fun e w' => e = .returned (.tuple #[.agg #[.bool (if b then n else false), .string (if b then l else ⟨#[]⟩), .string (if b then d else ⟨#[]⟩)], .bool b]) ∧ Below w.heap.size w w' :=
 PBundleExact.wherryref11_keep.calls n l d b _ _ _ _ w (by unfold PBundleExact.wherryref11_keep.f; cases b <;> rfl)
theorem slice_mid (s : ByteArray) (i j : Nat) (hi : i ≤ j) (hj : j ≤ s.size) (X : ByteArray) (hX : X = str (((lst s).drop i).take (j - i))) (w : World) : (Instr.slice 9 (.string s) (some (.int .i64 (i : Int))) (some (.int .i64 (j : Int))) none).run Tryz.prog w = .ok (.string X) w := by
 rw [run_slice_string_if w 9 _ .i64 .i64 (i : Int) (j : Int) Tryz.underlying9, if_pos ⟨by omega, by omega⟩, if_pos ⟨by omega, by omega⟩]
 rw [show (i : Int).toNat = i by omega, show (j : Int).toNat = j by omega, ext_mid, hX]
set_option maxRecDepth 100000 in
set_option maxHeartbeats 4000000 in
theorem rparse_any (s : ByteArray) (w : World) (hs : s.size ≤ 60000) :
  Calls Tryz.prog 65 #[.string s] w fun e w' => e = .returned (rpres (V.pparse (lst s))) ∧ Below w.heap.size w w' := by
 obtain ⟨T, hT⟩ : ∃ T, T = rpres (V.pparse (lst s)) := ⟨_, rfl⟩
 rw [← hT]
 have HT := Aside0.mk hT
 clear hT
 obtain ⟨w1, hw1⟩ : ∃ w1, w1 = w.alloc (.cells #[.bool false, .string { data := #[] }, .string { data := #[] }] 43) := ⟨_, rfl⟩
 have hb1 : Below w.heap.size w w1 := by rw [hw1]; exact (Below.refl _ w).alloc (Nat.le_refl _) _
 have hra : w1.heap[w.heap.size]? = some (.cells #[.bool false, .string { data := #[] }, .string { data := #[] }] 43 (0, 0)) := by rw [hw1]; exact heap_alloc_new _ _
 have hsb : w.heap.size < w1.heap.size := (Array.getElem?_eq_some_iff.1 hra).1
 have hrow : ∀ wx, Below w1.heap.size w1 wx → wx.heap[w.heap.size]? = some (.cells #[.bool false, .string { data := #[] }, .string { data := #[] }] 43 (0, 0)) := fun wx h => (h.block _ hsb).trans hra
 have HRA := Aside0.mk hra
 have HRO := Aside0.mk hrow
 have HB1 := Aside0.mk hb1
 have HSB := Aside0.mk hsb
 obtain ⟨a0, a1, a2, f0, f1, f2⟩ := cells3 hra
 have hl := lst_length s
 clear hra hrow hb1 hsb
 go_enter Tryz.func65, Tryz.ntmps65
 go_upto_region 1 with (fail)
 rw [← hw1]
 clear hw1
 by_cases hs0 : lst s = [60, 62]
 ·have t0 : (s.toList == [60, 62]) = true := by rw [eq_const s _ [60, 62] rfl, decide_eq_true hs0]
  have HTF := Aside0.mk (show T = .tuple #[.agg #[.bool true, .string ⟨#[]⟩, .string ⟨#[]⟩], .bool true] by rw [HT.out, hs0]; rfl)
  clear hs0 hl
  go_wp2_with (fail)
  refine bodyPost_ret (v := T) ?_ rfl ⟨rfl, ?_⟩
  ·rw [HTF.out]
   exact results_ct (by rfl) _ _ w.heap.size 43 _ (0, 0) _ rfl (row3 HRA.out) Tryz.underlying43 rfl (by kernel_rfl) _ rfl
  ·exact ((HB1.out.setCell (Nat.le_refl _) _).setCell (Nat.le_refl _) _).setCell (Nat.le_refl _) _
 have t0 : (s.toList == [60, 62]) = false := by rw [eq_const s _ [60, 62] rfl, decide_eq_false hs0]
 have HN0 := Aside0.mk hs0
 clear hs0
 have hnone : V.pparse (lst s) = none → T = .tuple #[.agg #[.bool false, .string ⟨#[]⟩, .string ⟨#[]⟩], .bool false] := by
  intro h
  rw [HT.out, h]
  rfl
 have HNO := Aside0.mk hnone
 clear hnone
 by_cases h2 : s.size < 2
 ·have hp : V.pparse (lst s) = none := by
   unfold V.pparse
   rw [if_neg HN0.out]
   rw [if_neg]
   rintro ⟨g1, g2⟩
   cases hls : lst s with
   | nil => rw [hls] at g1; cases g1
   | cons x t =>
    rw [hls] at g2 hl
    have : t = [] := List.eq_nil_of_length_eq_zero (by simp at hl; omega)
    rw [this] at g2
    cases g2
  have HTF := Aside0.mk (HNO.out hp)
  have t1 : decide ((s.size : Int) < 2) = true := by simp; omega
  have t2 : decide (s.size < 2) = true := by simp; omega
  clear hp hl
  go_wp2_with (fail)
  refine bodyPost_ret (v := T) ?_ rfl ⟨rfl, ?_⟩
  ·rw [HTF.out]
   exact results_ct (by rfl) _ _ w.heap.size 43 _ (0, 0) _ rfl (row3 HRA.out) Tryz.underlying43 rfl (by kernel_rfl) _ rfl
  ·exact ((HB1.out.setCell (Nat.le_refl _) _).setCell (Nat.le_refl _) _).setCell (Nat.le_refl _) _
 have t1 : decide ((s.size : Int) < 2) = false := by simp; omega
 have t2 : decide (s.size < 2) = false := by simp; omega
 have hh : (lst s).head? = some ((lst s).getD 0 0) := by
  rw [List.head?_eq_getElem?, List.getD_eq_getElem?_getD, List.getElem?_eq_getElem (by omega)]; rfl
 have hla := getLast_getD (lst s) (by omega)
 rw [hl] at hla
 have htl : (lst s).tail.getLast? = (lst s).getLast? := by
  cases hls : lst s with
  | nil => rfl
  | cons x t =>
   rw [hls] at hl
   cases t with
   | nil => simp at hl; omega
   | cons y t => rfl
 obtain ⟨c, hc⟩ : ∃ c, c = (lst s).getD 0 0 := ⟨_, rfl⟩
 obtain ⟨x, hx⟩ : ∃ x : Int, x = (c.toNat : Int) := ⟨_, rfl⟩
 have hix := fun w => index_str s 0 (by omega) c hc x hx w
 rw [show ((0 : Nat) : Int) = 0 from rfl] at hix
 obtain ⟨d, hd⟩ : ∃ c, c = (lst s).getD (s.size - 1) 0 := ⟨_, rfl⟩
 obtain ⟨y, hy⟩ : ∃ x : Int, x = (d.toNat : Int) := ⟨_, rfl⟩
 have hiy := fun w => index_str s (s.size - 1) (by omega) d hd y hy w
 rw [show ((s.size - 1 : Nat) : Int) = (s.size : Int) - 1 by omega] at hiy
 have hws : wrap64 ((s.size : Int) - 1) = (s.size : Int) - 1 := by unfold wrap64; omega
 rw [← hc] at hh
 rw [← hd] at hla
 have hpe : V.pparse (lst s) = if c = 60 ∧ d = 62 then (match V.cutAt 64 ((lst s).tail.dropLast) with | none => none | some (a, b) => if V.check ⟨false, a, b⟩ then some ⟨false, a, b⟩ else none) else none := by
  unfold V.pparse
  rw [if_neg HN0.out, hh, htl, hla]
  by_cases h : c = 60 ∧ d = 62
  ·rw [if_pos h, if_pos ⟨by rw [h.1], by rw [h.2]⟩]
   rfl
  ·rw [if_neg h, if_neg (fun e => h ⟨Option.some.inj e.1, Option.some.inj e.2⟩)]
 have HPE := Aside0.mk hpe
 have e60 : (x = 60) ↔ c = 60 := by rw [hx]; exact eqInt c 60 60 rfl
 have e62 : (y = 62) ↔ d = 62 := by rw [hy]; exact eqInt d 62 62 rfl
 clear hh hla htl hpe hc hx hd hy
 by_cases hc60 : c = 60
 ·by_cases hd62 : d = 62
  ·have hxv := e60.2 hc60
   have hyv := e62.2 hd62
   obtain ⟨I, hI⟩ : ∃ I, I = (lst s).tail.dropLast := ⟨_, rfl⟩
   obtain ⟨si, hsi⟩ : ∃ x, x = str I := ⟨_, rfl⟩
   have hIe : I = ((lst s).drop 1).take (s.size - 1 - 1) := by
    rw [hI, List.dropLast_eq_take, List.length_tail, hl, List.drop_one]
   have hIl : I.length = s.size - 2 := by rw [hI, List.length_dropLast, List.length_tail, hl]; omega
   have hsl := fun w => slice_mid s 1 (s.size - 1) (by omega) (by omega) si (by rw [hsi, hIe]) w
   rw [show ((s.size - 1 : Nat) : Int) = (s.size : Int) - 1 by omega, show ((1 : Nat) : Int) = 1 from rfl] at hsl
   have hsz : si.size = s.size - 2 := by rw [hsi, str_size, hIl]
   have hls : lst si = I := by rw [hsi, lst_str]
   have hpi : V.pparse (lst s) = match V.cutAt 64 I with | none => none | some (a, b) => if V.check ⟨false, a, b⟩ then some ⟨false, a, b⟩ else none := by
    rw [HPE.out, if_pos ⟨hc60, hd62⟩, ← hI]
   have HPI := Aside0.mk hpi
   have HLS := Aside0.mk hls
   have HSI := Aside0.mk hsi
   have hsz6 : si.size ≤ 60000 := by omega
   have HSZ := Aside0.mk hsz6
   subst hxv hyv
   clear hI hIe hIl hls hpi hsi hsz e60 e62 hc60 hd62
   go_upto_region 6 with (fail)
   clear a0 a1 a2 f0 f1 f2
   go_wp2_with (fail)
   go_loopg [4] si.size (fun g v4 wr => ∃ n : Nat, n ≤ si.size ∧ g + n = si.size ∧ v4 = .int .i64 n ∧ wr = w1 ∧ Aside0 (∀ j, j < n → I.getD j 0 ≠ 64))
   case atStart => exact ⟨0, by omega, by omega, rfl, rfl, ⟨fun j hj => by omega⟩⟩
   case round =>
    obtain ⟨n, hn, hg, rfl, rfl, H⟩ := hrel
    obtain ⟨wx, rfl⟩ : ∃ wz : World, wz = wr := ⟨_, rfl⟩
    obtain ⟨a0, a1, a2, f0, f1, f2⟩ := cells3 HRA.out
    by_cases hlt : n < si.size
    ·obtain ⟨c, hc⟩ : ∃ c, c = (lst si).getD n 0 := ⟨_, rfl⟩
     obtain ⟨x, hx⟩ : ∃ x : Int, x = (c.toNat : Int) := ⟨_, rfl⟩
     have hix := fun w => index_str si n hlt c hc x hx w
     have hlt' : (n : Int) < (si.size : Int) := by omega
     have h0 : (0 : Int) ≤ (n : Int) := by omega
     have e64 : (x = 64) ↔ c = 64 := by rw [hx]; exact eqInt c 64 64 rfl
     have hcI : c = I.getD n 0 := by rw [hc, HLS.out]
     have HCI := Aside0.mk hcI
     clear hc hx hcI
     by_cases hc64 : c = 64
     ·have hxv := e64.2 hc64
      subst hxv
      have hcut : V.cutAt 64 I = some (I.take n, I.drop (n + 1)) := by
       refine vcut_take 64 I n ?_ (by rw [← HCI.out]; exact hc64) H.out
       have e : I.length = si.size := by rw [← HLS.out, lst_length]
       omega
      have hIlen : I.length ≤ 60000 := by
       have e : I.length = si.size := by rw [← HLS.out, lst_length]
       have := HSZ.out
       omega
      obtain ⟨X, hX⟩ : ∃ X, X = str (I.take n) := ⟨_, rfl⟩
      obtain ⟨Y, hY⟩ : ∃ Y, Y = str (I.drop (n + 1)) := ⟨_, rfl⟩
      have hto := fun w => slice_to si n (by omega) X (by rw [hX, HLS.out]) w
      have hfrom := fun w => slice_from si (n + 1) (by omega) Y (by rw [hY, HLS.out]) w
      have hwn : IntKind.i64.wrap ((n : Int) + 1) = ((n + 1 : Nat) : Int) := by
       have := HSZ.out
       simp [IntKind.wrap, IntKind.signed, IntKind.bits]
       omega
      rw [← hwn] at hfrom
      clear hwn
      obtain ⟨B, hB⟩ : ∃ B, B = V.check ⟨false, I.take n, I.drop (n + 1)⟩ := ⟨_, rfl⟩
      have hpth : ∀ w, Calls Tryz.prog 74 #[.agg #[.bool false, .string X, .string Y]] w fun e w' => e = .returned (.bool B) ∧ Below w.heap.size w w' := by
       intro w
       have h := rpath2_any ⟨false, I.take n, I.drop (n + 1)⟩ w (by show (I.take n).length ≤ 60000; rw [List.length_take]; omega) (by show (I.drop (n + 1)).length ≤ 60000; rw [List.length_drop]; omega)
       rw [hX, hY, hB]
       exact h
      have HPTH := Aside0.mk hpth
      have hkp := fun w => rkeep_any false B X Y w
      have hT2 : T = .tuple #[.agg #[.bool (if B then false else false), .string (if B then X else ⟨#[]⟩), .string (if B then Y else ⟨#[]⟩)], .bool B] := by
       rw [HT.out, HPI.out, hcut]
       show rpres (if V.check ⟨false, I.take n, I.drop (n + 1)⟩ = true then some ⟨false, I.take n, I.drop (n + 1)⟩ else none) = _
       rw [← hB, hX, hY]
       cases B <;> rfl
      obtain ⟨R1, hR1⟩ : ∃ R, R = (if B then false else false) := ⟨_, rfl⟩
      obtain ⟨R2, hR2⟩ : ∃ R : ByteArray, R = (if B then X else ⟨#[]⟩) := ⟨_, rfl⟩
      obtain ⟨R3, hR3⟩ : ∃ R : ByteArray, R = (if B then Y else ⟨#[]⟩) := ⟨_, rfl⟩
      rw [← hR1, ← hR2, ← hR3] at hT2
      simp only [← hR1, ← hR2, ← hR3] at hkp
      have HKP := Aside0.mk hkp
      have HT2 := Aside0.mk hT2
      clear hX hY hB hpth hT2 hcut hIlen hc64 e64 hkp hR1 hR2 hR3
      go_upto_region 10 with (fail)
      go_region_with (fail)
      all_goals go_wp2_with (fail)
      obtain ⟨w2, hw2⟩ : ∃ w2, w2 = (wx.alloc (.cells #[.bool false, .string X, .string Y] 43)).drew := ⟨_, rfl⟩
      rw [← hw2]
      have hb2 : Below wx.heap.size wx w2 := by rw [hw2]; exact ((Below.refl _ wx).alloc (Nat.le_refl _) _).drew
      have hr5 : w2.heap[wx.heap.size]? = some (.cells #[.bool false, .string X, .string Y] 43 (0, 0)) := by rw [hw2]; exact heap_alloc_new wx _
      have hs5 : wx.heap.size < w2.heap.size := (Array.getElem?_eq_some_iff.1 hr5).1
      have hrow5 : ∀ wy, Below w2.heap.size w2 wy → wy.heap[wx.heap.size]? = some (.cells #[.bool false, .string X, .string Y] 43 (0, 0)) := fun wy h => (h.block _ hs5).trans hr5
      obtain ⟨G5, hG5⟩ : ∃ G, G = wx.heap.size := ⟨_, rfl⟩
      rw [← hG5] at hr5 hrow5 ⊢
      have HRO5 := Aside0.mk hrow5
      have HB2 := Aside0.mk hb2
      have hdr : Below w2.heap.size w2 w2.drew := (Below.refl _ w2).drew
      have HDR := Aside0.mk hdr
      clear hdr
      clear a0 a1 a2 f0 f1 f2
      obtain ⟨a0, a1, a2, f0, f1, f2⟩ := cells3 (HRO.out w2 hb2)
      obtain ⟨b0, b1, b2, g0, g1, g2⟩ := cells3 hr5
      clear hw2 hr5 hs5 hrow5 hG5 hb2 hto hfrom hix
      go_region_with (first | (go_at_call 74; (with_reducible refine Calls.mono (HPTH.out _) ?_); rintro e w3 ⟨rfl, h⟩; have H3 := Aside0.mk (HDR.out.trans (h.mono HDR.out.size)); clear h a0 a1 a2 f0 f1 f2 b0 b1 b2 g0 g1 g2; obtain ⟨a0, a1, a2, f0, f1, f2⟩ := cells3 (HRO.out w3 (HB2.out.trans (H3.out.mono HB2.out.size))); obtain ⟨b0, b1, b2, g0, g1, g2⟩ := cells3 (HRO5.out w3 H3.out)) | (go_at_call 89; (with_reducible refine Calls.mono (HKP.out _) ?_); rintro e w4 ⟨rfl, h⟩; have H4 := Aside0.mk (H3.out.trans (h.mono H3.out.size)); clear h a0 a1 a2 f0 f1 f2 b0 b1 b2 g0 g1 g2; obtain ⟨a0, a1, a2, f0, f1, f2⟩ := cells3 (HRO.out w4 (HB2.out.trans (H4.out.mono HB2.out.size)))))
      all_goals
       go_wp2_with (fail)
       refine bodyPost_ret (v := T) ?_ rfl ⟨rfl, ?_⟩
       ·rw [HT2.out]
        exact results_ct (by rfl) _ _ w.heap.size 43 _ (0, 0) _ rfl (row3 (HRO.out w4 (HB2.out.trans (H4.out.mono HB2.out.size)))) Tryz.underlying43 rfl (by kernel_rfl) _ rfl
       ·exact (((HB1.out.trans ((HB2.out.trans (H4.out.mono HB2.out.size)).mono HB1.out.size)).setCell (Nat.le_refl _) _).setCell (Nat.le_refl _) _).setCell (Nat.le_refl _) _
     ·have hxv : (x == 64) = false := by rw [beq_eq_false_iff_ne]; exact fun e => hc64 (e64.1 e)
      have hxd : decide (x = 64) = false := by rw [decide_eq_false_iff_not]; exact fun e => hc64 (e64.1 e)
      have HC64 := Aside0.mk hc64
      clear e64 hc64
      go_wp2_with (fail)
      go_roundg (gk - 1)
      case measure => omega
      case rel =>
       refine ⟨n + 1, by omega, by omega, by go_num, rfl, ⟨fun j hj => ?_⟩⟩
       by_cases hjn : j = n
       ·rw [hjn, ← HCI.out]; exact HC64.out
       ·exact H.out j (by omega)
    ·have hne : n = si.size := by omega
     subst hne
     have hp : V.pparse (lst s) = none := by
      rw [HPI.out, vcut_no 64 I (fun j hj => H.out j (by rw [← lst_length, HLS.out]; exact hj))]
     have HTF := Aside0.mk (HNO.out hp)
     have t3 : decide ((si.size : Int) < (si.size : Int)) = false := by simp
     clear hp hlt hg hn
     go_wp2_with (fail)
     refine bodyPost_ret (v := T) ?_ rfl ⟨rfl, ?_⟩
     ·rw [HTF.out]
      exact results_ct (by rfl) _ _ w.heap.size 43 _ (0, 0) _ rfl (row3 HRA.out) Tryz.underlying43 rfl (by kernel_rfl) _ rfl
     ·exact ((HB1.out.setCell (Nat.le_refl _) _).setCell (Nat.le_refl _) _).setCell (Nat.le_refl _) _
  ·have hp : V.pparse (lst s) = none := by rw [HPE.out, if_neg (fun e => hd62 e.2)]
   have HTF := Aside0.mk (HNO.out hp)
   have hyv : (y != 62) = true := by rw [bne_iff_ne]; exact fun e => hd62 (e62.1 e)
   have hxv := e60.2 hc60
   subst hxv
   clear hp e60 e62 hl
   go_wp2_with (fail)
   refine bodyPost_ret (v := T) ?_ rfl ⟨rfl, ?_⟩
   ·rw [HTF.out]
    exact results_ct (by rfl) _ _ w.heap.size 43 _ (0, 0) _ rfl (row3 HRA.out) Tryz.underlying43 rfl (by kernel_rfl) _ rfl
   ·exact ((HB1.out.setCell (Nat.le_refl _) _).setCell (Nat.le_refl _) _).setCell (Nat.le_refl _) _
 ·have hp : V.pparse (lst s) = none := by rw [HPE.out, if_neg (fun e => hc60 e.1)]
  have HTF := Aside0.mk (HNO.out hp)
  have hxv : (x != 60) = true := by rw [bne_iff_ne]; exact fun e => hc60 (e60.1 e)
  clear hp e60 e62 hl
  go_wp2_with (fail)
  refine bodyPost_ret (v := T) ?_ rfl ⟨rfl, ?_⟩
  ·rw [HTF.out]
   exact results_ct (by rfl) _ _ w.heap.size 43 _ (0, 0) _ rfl (row3 HRA.out) Tryz.underlying43 rfl (by kernel_rfl) _ rfl
  ·exact ((HB1.out.setCell (Nat.le_refl _) _).setCell (Nat.le_refl _) _).setCell (Nat.le_refl _) _
end Go.Proofs.YtpfmnkpmidjfjaaGreatDoor
/- The reference's Strip. -/
namespace Go.Proofs.YtpfmnkpmidjfjaaGreatDoor
open Go.RowKit Go.Proofs.YtpfmnkpmidjfjaaGreatDoorW.PrintWords Go.Proofs.YtpfmnkpmidjfjaaGreatDoor.PBundleExact
set_option linter.unusedVariables false
set_option linter.unusedSimpArgs false
theorem strip_l0 (b : B.Bs) (hs : b.length ≤ 900000) (n : Nat) (hn : n ≤ b.length) : ∀ (m i k : Nat) (o : B.Bs), n - i = m → i ≤ n → m + 1 ≤ k → o.length ≤ i →
  wherryref11_Strip.l0 k (nb b) (n : Int) (nb o) (i : Int) = some (nb (o ++ B.runGo (if i = 0 then 10 else b.getD (i - 1) 0) ((b.take n).drop i)), ((n + 3 : Nat) : Int), 0) := by
 intro m
 induction m with
 | zero =>
  intro i k o hm hi hk ho
  obtain ⟨k, rfl⟩ : ∃ k', k = k' + 1 := ⟨k - 1, by omega⟩
  have e1 : wrap64 ((n : Int) + 3) = ((n + 3 : Nat) : Int) := by rw [wrap_small _ (by omega) (by omega)]; omega
  rw [wherryref11_Strip.l0, if_neg (by omega), e1, List.drop_of_length_le (by rw [List.length_take]; omega)]
  show _ = some (nb (o ++ []), _, _)
  rw [List.append_nil]
 | succ m ih =>
  intro i k o hm hi hk ho
  obtain ⟨k, rfl⟩ : ∃ k', k = k' + 1 := ⟨k - 1, by omega⟩
  have e1 : wrap64 ((i : Int) + 1) = ((i + 1 : Nat) : Int) := by rw [wrap_small _ (by omega) (by omega)]; omega
  have hib : i < b.length := by omega
  have hit : i < (b.take n).length := by rw [List.length_take]; omega
  have hg : (b.take n).getD i 0 = b.getD i 0 := by
   rw [List.getD_eq_getElem?_getD, List.getD_eq_getElem?_getD, List.getElem?_take, if_pos (by omega)]
  have hd : (b.take n).drop i = b.getD i 0 :: (b.take n).drop (i + 1) := by rw [drop_getD _ _ hit, hg]
  have hol : (nb o).length < 140737488355328 := by rw [nb_length]; omega
  have keep := ih (i + 1) k (o ++ [b.getD i 0]) (by omega) (by omega) (by omega) (by rw [List.length_append]; simp; omega)
  have skip := ih (i + 1) k o (by omega) (by omega) (by omega) (by omega)
  rw [if_neg (by omega), Nat.add_sub_cancel] at keep skip
  have ek : nb o ++ [((b.getD i 0).toNat : Int)] = nb (o ++ [b.getD i 0]) := by rw [nb_append]; rfl
  rw [wherryref11_Strip.l0, if_pos (by omega), if_pos (by omega), nb_length, if_pos (by omega), rd_nb, e1, hd]
  simp only [if_pos hol]
  rw [ek, keep, skip]
  show _ = some (nb (o ++ ((if b.getD i 0 ≠ 46 ∨ _ ≠ (10 : UInt8) then [b.getD i 0] else []) ++ B.runGo (b.getD i 0) _)), _, _)
  by_cases c1 : b.getD i 0 = 46
  ·rw [if_pos ((byte_46 _).2 c1)]
   by_cases c2 : i = 0
   ·rw [if_neg (by omega), if_pos c2, if_neg (fun h => h.elim (fun h => h c1) (fun h => h rfl))]
    rfl
   ·have e2 : wrap64 ((i : Int) - 1) = ((i - 1 : Nat) : Int) := by rw [wrap_small _ (by omega) (by omega)]; omega
    rw [if_pos (by omega), e2, if_pos (by omega), if_pos (by omega), rd_nb, if_neg c2]
    by_cases c3 : b.getD (i - 1) 0 = 10
    ·rw [if_pos ((byte_10 _).2 c3), if_neg (fun h => h.elim (fun h => h c1) (fun h => h c3))]
     rfl
    ·rw [if_neg (fun e => c3 ((byte_10 _).1 e)), if_pos (Or.inr c3), List.append_assoc]
  ·rw [if_neg (fun e => c1 ((byte_46 _).1 e)), if_pos (Or.inl c1), List.append_assoc]
end Go.Proofs.YtpfmnkpmidjfjaaGreatDoor
/- The reference's Strip, joined. -/
namespace Go.Proofs.YtpfmnkpmidjfjaaGreatDoor
open Go.RowKit Go.Proofs.YtpfmnkpmidjfjaaGreatDoorW.PrintWords Go.Proofs.YtpfmnkpmidjfjaaGreatDoor.PBundleExact
set_option linter.unusedVariables false
set_option linter.unusedSimpArgs false
theorem dot_le {b : B.Bs} {n : Nat} (h : B.dot b = some n) : n ≤ b.length := by
 unfold B.dot at h
 by_cases hp : ([46, 13, 10] : B.Bs).isPrefixOf b = true
 ·rw [if_pos hp] at h
  have : 0 = n := Option.some.inj h
  omega
 ·rw [if_neg hp] at h
  cases hf : B.find [13, 10, 46, 13, 10] 0 b with
  | none => rw [hf] at h; cases h
  | some m =>
   rw [hf] at h
   have e : m + 2 = n := Option.some.inj h
   have h1 := find_lt _ (by decide) b 0 m hf
   have h2 : ([13, 10, 46, 13, 10] : B.Bs).length = 5 := rfl
   omega
theorem body_up (l : B.Bs) (hs : l.length ≤ 800000) (k : Nat) (hk : l.length + 1 ≤ k) : wherryref11_Body.f k (nb l) = some (B.body l) := by
 obtain ⟨d, rfl⟩ : ∃ d, k = l.length + 1 + d := ⟨k - (l.length + 1), by omega⟩
 clear hk
 induction d with
 | zero => exact ref_body l (by omega)
 | succ d ih => exact wherryref11_Body.mono (nb l) (l.length + 1 + d) _ ih
theorem ref_strip (b : B.Bs) (hs : b.length ≤ 800000) : wherryref11_Strip.f (b.length + 1) (nb b) = some (match B.strip b with
  | some (o, n) => (nb o, (n : Int), 0)
  | none => ([], 0, if B.rdot b < 0 then 9 else 5)) := by
 unfold wherryref11_Strip.f wherryref11_dot.f
 have h0 := dot_l0 b (by omega) _ 0 (b.length + 1) rfl (Nat.zero_le _) (by omega) (fun j hj => by omega)
 rw [show ((0 : Nat) : Int) = 0 from rfl] at h0
 rw [h0]
 show (if B.rdot b < 0 then _ else _) = _
 unfold B.strip
 cases hd : B.dot b with
 | none =>
  have hr : B.rdot b = -1 := by unfold B.rdot; rw [hd]
  rw [hr, if_pos (by decide)]
  rfl
 | some n =>
  have hr : B.rdot b = (n : Int) := by unfold B.rdot; rw [hd]
  have hle := dot_le hd
  rw [hr, if_neg (by omega), if_pos (by omega), nb_length, if_pos (by omega), Int.toNat_natCast, ← nb_take]
  rw [body_up (b.take n) (by rw [List.length_take]; omega) (b.length + 1) (by rw [List.length_take]; omega)]
  show (if B.body (b.take n) = true then _ else _) = _
  cases hb : B.body (b.take n) with
  | false =>
   simp only [hb, Bool.false_eq_true, if_false]
   rw [if_neg (by omega)]
  | true =>
   simp only [hb, if_true]
   have h1 := strip_l0 b (by omega) n hle _ 0 (b.length + 1) [] rfl (Nat.zero_le _) (by omega) (Nat.le_refl _)
   rw [if_pos rfl, List.drop_zero, List.nil_append, B.runGo_eq hb] at h1
   exact h1
theorem rstrip_any {A : Option Addr} {c : Nat} {b : B.Bs} {w : World} (hb : Bt w A c b) (hl : b.length ≤ 800000) :
  Calls Tryz.prog 66 #[.slice A b.length c] w fun e w' => (match B.strip b with
   | some (o, n) => ∃ v, e = .returned (.tuple #[v, .int .i64 n, .int .i64 0]) ∧ Kd.R (Kd.int .u8) 5 w' w.heap.size (fun _ => True) v (nb o)
   | none => ∃ v, e = .returned (.tuple #[v, .int .i64 0, .int .i64 (if B.rdot b < 0 then 9 else 5)])) ∧ Below w.heap.size w w' := by
 have h := ref_strip b hl
 cases hx : B.strip b with
 | none =>
  rw [hx] at h
  have h2 := wherryref11_Strip.calls (b.length + 1) A c (nb b) _ _ _ w hb.rd (by rw [nb_length]; exact hb.cap) h
  rw [nb_length] at h2
  exact h2.mono (fun e w' ⟨v, h3, h4, h5⟩ => ⟨⟨v, h3⟩, h5⟩)
 | some p =>
  obtain ⟨o, n⟩ := p
  rw [hx] at h
  have h2 := wherryref11_Strip.calls (b.length + 1) A c (nb b) _ _ _ w hb.rd (by rw [nb_length]; exact hb.cap) h
  rw [nb_length] at h2
  exact h2.mono (fun e w' ⟨v, h3, h4, h5⟩ => ⟨⟨v, h3, h4⟩, h5⟩)
end Go.Proofs.YtpfmnkpmidjfjaaGreatDoor
/- The reference's mail: what it answers. -/
namespace Go.Proofs.YtpfmnkpmidjfjaaGreatDoor
open Go.RowKit Go.Lib
open Go.Proofs.YtpfmnkpmidjfjaaGreatDoorW.PrintWords
set_option linter.unusedVariables false
set_option linter.unusedSimpArgs false
theorem line_at {t : B.Bs} {x : Nat} {line rest : B.Bs} (h : B.cut (t.drop x) = some (line, rest)) (hx : x ≤ t.length) : x + line.length + 2 + rest.length = t.length ∧ (t.drop x).take line.length = line ∧ t.drop (x + line.length + 2) = rest ∧ B.rend t x = ((x + line.length : Nat) : Int) := by
 have hs := B.cut_shape h
 have hl := congrArg List.length hs
 rw [List.length_drop, List.length_append, List.length_cons, List.length_cons] at hl
 refine ⟨by omega, ?_, ?_, ?_⟩
 ·rw [hs]; simp
 ·rw [show x + line.length + 2 = x + (line.length + 2) by omega, ← List.drop_drop, hs, ← List.drop_drop]
  simp
 ·unfold B.rend
  rw [h]
theorem line_sl {t : B.Bs} {x : Nat} {line rest : B.Bs} {A : Option Addr} {c E : Nat} (h : B.cut (t.drop x) = some (line, rest)) (hx : x ≤ t.length) (hc : t.length ≤ c) (hE : E = x + line.length) :
  ∃ A1 c1, (∀ W, (Instr.slice 25 (.slice A t.length c) (some (.int .i64 (x : Int))) (some (.int .i64 (E : Int))) none).run Tryz.prog W = .ok (.slice A1 line.length c1) W) ∧ (∀ W, Bt W A c t → Bt W A1 c1 line) := by
 obtain ⟨h1, h2, h3, h4⟩ := line_at h hx
 refine ⟨if c = x then A else A.map (fun y => y.add x), c - x, fun W => ?_, fun W hb => ?_⟩
 ·obtain ⟨i, hi, hsz⟩ := infoU8i
  have ht := Tryz.underlying25
  have hel : Tryz.prog.elem 25 = 5 := by simp [Program.elem, ht]
  have hu : Tryz.prog.underlying 25 = some (.slice (Tryz.prog.elem 25)) := by rw [hel]; exact ht
  rw [run_slice_lh W 25 A t.length c hu .i64 .i64 (x : Int) (E : Int) (by omega) (by omega) (by omega), hel]
  simp [sizeOf, typeInfo, hi, hsz, sliced, Result.andThen]
  omega
 ·have := (hb.drop x hx).take line.length (by rw [List.length_drop]; omega)
  rw [h2] at this
  exact this
theorem rest_sl {t : B.Bs} {x : Nat} {line rest : B.Bs} {A : Option Addr} {c E : Nat} (h : B.cut (t.drop x) = some (line, rest)) (hx : x ≤ t.length) (hE : E = x + line.length) :
  ∃ A1 c1, (∀ W, (Instr.slice 25 (.slice A t.length c) (some (.int .i64 ((E : Int) + 2))) none none).run Tryz.prog W = .ok (.slice A1 rest.length c1) W) ∧ (∀ W, Bt W A c t → Bt W A1 c1 rest) := by
 obtain ⟨h1, h2, h3, h4⟩ := line_at h hx
 refine ⟨if c = E + 2 then A else A.map (fun x => x.add (E + 2)), c - (E + 2), fun W => ?_, fun W hb => ?_⟩
 ·have := sl_from (A := A) (n := t.length) (c := c) (m := E + 2) (by omega) W
  rw [show t.length - (E + 2) = rest.length by omega, show ((E + 2 : Nat) : Int) = (E : Int) + 2 by omega] at this
  exact this
 ·have := hb.drop (E + 2) (by omega)
  rw [hE, h3] at this
  rw [hE]
  exact this
def rmPost (o : Option (B.Mail × B.Bs)) (t : B.Bs) (b : Nat) (e : Ending) (w' : World) : Prop := match o with
 | none => ∃ n l d A1 k c1, e = .returned (.tuple #[.agg #[.bool n, .string l, .string d, .slice A1 k c1, .slice none 0 0, .bool false, .string { data := #[] }, .int .i64 0], .int .i64 0, .bool false])
 | some (m, r) => ∃ A1 c1 A2 c2 nx, e = .returned (.tuple #[.agg #[.bool m.frm.null, .string (str m.frm.loc), .string (str m.frm.dom), .slice A1 m.to.length c1, .slice A2 m.body.length c2, .bool m.quiet, .string (str m.helo), .int .i64 m.tm], .int .i64 ((nx : Nat) : Int), .bool true]) ∧ nx ≤ t.length ∧ t.drop nx = r ∧ kMail.M w' b (fun _ => True) m (mcs m A1 c1 A2 c2)
theorem no_post {n : Bool} {l d : ByteArray} {A1 : Option Addr} {k c1 : Nat} {t : B.Bs} {b : Nat} {w' : World} : rmPost none t b (.returned (.tuple #[.agg #[.bool n, .string l, .string d, .slice A1 k c1, .slice none 0 0, .bool false, .string { data := #[] }, .int .i64 0], .int .i64 0, .bool false])) w' := ⟨n, l, d, A1, k, c1, rfl⟩
def B.rfin (p : V.Path) (ts : List V.Path) (o : Option (List V.Path × B.Bs)) : Option (B.Mail × B.Bs) := match o with
 | none => none
 | some y => match B.strip y.2 with
  | none => none
  | some z => some (⟨p, ts ++ y.1, z.1, false, [], 0⟩, y.2.drop z.2)
def B.rhd (rest : B.Bs) (S : Option B.Bs) : Option (B.Mail × B.Bs) := match S with
 | none => none
 | some s => match V.pparse s with
  | none => none
  | some p => B.rfin p [] (B.rtos (rest.length + 1) 0 rest)
theorem rdmail_cut {c line rest : B.Bs} (h : B.cut c = some (line, rest)) : B.rdmail c = B.rhd rest (if B.wFrom.isPrefixOf line = true then some (line.drop B.wFrom.length) else none) := by
 unfold B.rdmail B.cutLine
 rw [h]
 simp only
 by_cases hp : B.wFrom.isPrefixOf line = true
 ·simp only [if_pos hp]
  unfold B.rhd
  simp only
  cases hq : V.pparse (line.drop B.wFrom.length) with
  | none => rfl
  | some p =>
   simp only
   unfold B.rfin
   cases B.rtos (rest.length + 1) 0 rest with
   | none => rfl
   | some y =>
    obtain ⟨l, d⟩ := y
    simp only
    cases B.strip d with
    | none => rfl
    | some z => rfl
 ·simp only [if_neg hp]
  rfl
def cutV (o : Option B.Bs) : Value := match o with
 | some s => .tuple #[.string (str s), .bool true]
 | none => .tuple #[.string (str []), .bool false]
def B.rcons (p : V.Path) (o : Option (List V.Path × B.Bs)) : Option (List V.Path × B.Bs) := match o with
 | none => none
 | some x => some (p :: x.1, x.2)
theorem rtos_no {k n : Nat} {c : B.Bs} (h : B.cut c = none) : B.rtos k n c = none := by
 cases k with
 | zero => rfl
 | succ k => rw [B.rtos, h]
theorem rtos_to {k n : Nat} {c line rest : B.Bs} (h : B.cut c = some (line, rest)) (hp : B.wTo.isPrefixOf line = true) : B.rtos (k + 1) n c = match V.pparse (line.drop B.wTo.length) with
  | none => none
  | some p => if 8 ≤ n then none else B.rcons p (B.rtos k (n + 1) rest) := by
 rw [B.rtos, h]
 simp only
 rw [if_pos hp]
 cases V.pparse (line.drop B.wTo.length) with
 | none => rfl
 | some p => rfl
theorem rtos_end {k n : Nat} {c line rest : B.Bs} (h : B.cut c = some (line, rest)) (hp : ¬ B.wTo.isPrefixOf line = true) : B.rtos (k + 1) n c = if line = [68, 65, 84, 65] then some ([], rest) else none := by
 rw [B.rtos, h]
 simp only
 rw [if_neg hp]
theorem rfin_step {p p2 : V.Path} {ts : List V.Path} {o : Option (List V.Path × B.Bs)} : B.rfin p ts (B.rcons p2 o) = B.rfin p (ts ++ [p2]) o := by
 cases o with
 | none => rfl
 | some x =>
  unfold B.rfin B.rcons
  simp only
  cases B.strip x.2 with
  | none => rfl
  | some z => simp
theorem rowM_far {w : World} {g k : Nat} {o : Option Obj} {j0 j1 j2 : Nat} {x y z : Value} (h : w.heap[k]? = o) (hk : k ≠ g) : (((w.setCell ⟨g, j0, none⟩ x).setCell ⟨g, j1, none⟩ y).setCell ⟨g, j2, none⟩ z).heap[k]? = o := by
 rw [Below.heap_setCell _ _ _ _ hk, Below.heap_setCell _ _ _ _ hk, Below.heap_setCell _ _ _ _ hk]
 exact h
set_option maxRecDepth 100000 in
set_option maxHeartbeats 8000000 in
theorem rmailr_any {A : Option Addr} {c : Nat} {t : B.Bs} (w : World) (hb : Bt w A c t) (hl : t.length ≤ 50000) (x0 : Nat) (hx0 : x0 ≤ t.length) :
  Calls Tryz.prog 40 #[.slice A t.length c, .int .i64 (x0 : Int)] w fun e w' => rmPost (B.rdmail (t.drop x0)) t w.heap.size e w' ∧ Below w.heap.size w w' := by
 have HBT := Aside0.mk hb
 have hcap := hb.cap
 obtain ⟨O, hO⟩ : ∃ O, O = B.rdmail (t.drop x0) := ⟨_, rfl⟩
 rw [← hO]
 have HO := Aside0.mk hO
 obtain ⟨w0, hw0⟩ : ∃ w0, w0 = (w.alloc (.cells #[.bool false, .string { data := #[] }, .string { data := #[] }, .slice none 0 0, .slice none 0 0, .bool false, .string { data := #[] }, .int .i64 0] 46)).alloc (.cells #[.bool false, .string { data := #[] }, .string { data := #[] }, .slice none 0 0, .slice none 0 0, .bool false, .string { data := #[] }, .int .i64 0] 46) := ⟨_, rfl⟩
 have H0 := Aside0.mk (show Below w.heap.size w w0 by rw [hw0]; exact ((Below.refl _ _).alloc (Nat.le_refl _) _).alloc (by simp) _)
 have HR0 := Aside0.mk (show w0.heap[w.heap.size]? = some (.cells #[.bool false, .string { data := #[] }, .string { data := #[] }, .slice none 0 0, .slice none 0 0, .bool false, .string { data := #[] }, .int .i64 0] 46 (0, 0)) by rw [hw0]; exact row_on ((Below.refl _ _).alloc (Nat.le_refl _) _) (heap_alloc_new _ _))
 have HM0 := Aside0.mk (show w0.heap[w.heap.size + 1]? = some (.cells #[.bool false, .string { data := #[] }, .string { data := #[] }, .slice none 0 0, .slice none 0 0, .bool false, .string { data := #[] }, .int .i64 0] 46 (0, 0)) by rw [hw0]; exact alloc_two _ _ _)
 have HEND := Aside0.mk (show ∀ (x : Nat) (W : World), x ≤ t.length → Below w.heap.size w W → Calls Tryz.prog 37 #[.slice A t.length c, .int .i64 (x : Int)] W fun e w' => e = .returned (.int .i64 (B.rend t x)) ∧ Below W.heap.size W w' from fun x W hx hW => rend_any (HBT.out.on hW) (by omega) x hx)
 have HCUT := Aside0.mk (show ∀ (l p : B.Bs) (W : World), Calls Tryz.prog 64 #[.string (str l), .string (str p)] W fun e w' => e = .returned (cutV (if p.isPrefixOf l = true then some (l.drop p.length) else none)) ∧ Below W.heap.size W w' from fun l p W => (rcut_any l p W).mono (fun e w' h => ⟨by rw [h.1]; split <;> rfl, h.2⟩))
 have HPAR := Aside0.mk (show ∀ (l : B.Bs) (W : World), l.length ≤ 60000 → Calls Tryz.prog 65 #[.string (str l)] W fun e w' => e = .returned (rpres (V.pparse l)) ∧ Below W.heap.size W w' from fun l W h => by
  have := rparse_any (str l) W (by rw [str_size]; exact h)
  rw [lst_str] at this
  exact this)
 have HW0 := Aside0.mk hw0
 clear hb hO hw0
 cases hc : B.cut (t.drop x0) with
 | none =>
  have hE := HEND.out x0
  unfold B.rend at hE
  rw [hc] at hE
  have HE := Aside0.mk hE
  have HNO := Aside0.mk (show O = none by rw [HO.out]; unfold B.rdmail B.cutLine; rw [hc])
  clear hE hc
  go_enter Tryz.func40, Tryz.ntmps40
  go_upto_region 2 with (fail)
  rw [← HW0.out]
  go_wp2_with (first | (go_at_call 37; (with_reducible refine Calls.mono (HE.out _ hx0 H0.out) ?_); rintro e w1 ⟨rfl, h⟩; have H1 := Aside0.mk (H0.out.trans (h.mono H0.out.size)); have HR1 := Aside0.mk (row_on h HR0.out); have HM1 := Aside0.mk (row_on h HM0.out); (clear h); (try clear a0 a1 a2 a3 a4 a5 a6 a7 b0 b1 b2 b3 b4 b5 b6 b7 d0 d1 d2 d3 d4 d5 d6 d7 e0 e1 e2 e3 e4 e5 e6 e7); obtain ⟨⟨a0, a1, a2, a3, a4, a5, a6, a7⟩, b0, b1, b2, b3, b4, b5, b6, b7⟩ := cells8 HR1.out; obtain ⟨⟨d0, d1, d2, d3, d4, d5, d6, d7⟩, e0, e1, e2, e3, e4, e5, e6, e7⟩ := cells8 HM1.out))
  refine bodyPost_ret (v := .tuple #[.agg #[.bool false, .string { data := #[] }, .string { data := #[] }, .slice none 0 0, .slice none 0 0, .bool false, .string { data := #[] }, .int .i64 0], .int .i64 0, .bool false]) ?_ rfl ⟨(by rw [HNO.out]; exact no_post), ?_⟩
  ·exact results_ctt (by rfl) _ _ w.heap.size 46 _ (0, 0) _ rfl (row8_all HR1.out) Tryz.underlying46 rfl (by kernel_rfl) _ _ rfl rfl
  ·exact below8 H1.out (Nat.le_refl _)
 | some q =>
  obtain ⟨line, rest⟩ := q
  obtain ⟨q1, q2, q3, q4⟩ := line_at hc hx0
  obtain ⟨E, hE⟩ : ∃ E, E = x0 + line.length := ⟨_, rfl⟩
  rw [← hE] at q1 q3 q4
  obtain ⟨A1, c1, hsl, hbt⟩ := line_sl (A := A) (c := c) hc hx0 hcap hE
  have HBL := Aside0.mk hbt
  have hE1 : (E : Int) ≤ 50000 := by omega
  have hE2 := HEND.out x0
  rw [q4] at hE2
  have HE := Aside0.mk hE2
  have HQ := Aside0.mk (And.intro q1 q3)
  have hll : line.length ≤ 60000 := by omega
  obtain ⟨S, hS⟩ : ∃ S, S = if B.wFrom.isPrefixOf line = true then some (line.drop B.wFrom.length) else none := ⟨_, rfl⟩
  have hSl : ∀ s, S = some s → s.length ≤ 60000 := by
   intro s h
   rw [hS] at h
   split at h
   ·obtain rfl := Option.some.inj h
    rw [List.length_drop]; omega
   ·cases h
  have hc1 := HCUT.out line B.wFrom
  rw [← hS] at hc1
  have hrd : O = B.rhd rest S := by rw [HO.out, rdmail_cut hc, hS]
  have HRD := Aside0.mk hrd
  have HEE := Aside0.mk hE
  clear hS q2 q1 q3 q4 hbt hE2 hc hrd hll hE
  cases S with
  | none =>
   have HNO := Aside0.mk (show O = none from HRD.out)
   have HC1 := Aside0.mk (show ∀ (W : World), Calls Tryz.prog 64 #[.string (str line), .string { data := #[77, 65, 73, 76, 32, 70, 82, 79, 77, 58] }] W fun e w' => e = .returned (.tuple #[.string { data := #[] }, .bool false]) ∧ Below W.heap.size W w' from hc1)
   have HP1 := Aside0.mk (show ∀ (W : World), Calls Tryz.prog 65 #[.string { data := #[] }] W fun e w' => e = .returned (.tuple #[.agg #[.bool false, .string { data := #[] }, .string { data := #[] }], .bool false]) ∧ Below W.heap.size W w' from fun W => HPAR.out [] W (by decide))
   clear hc1 hSl
   go_enter Tryz.func40, Tryz.ntmps40
   go_upto_region 2 with (fail)
   rw [← HW0.out]
   go_upto_region 5 with (first | (go_at_call 37; (with_reducible refine Calls.mono (HE.out _ hx0 H0.out) ?_); rintro e w1 ⟨rfl, h⟩; have H1 := Aside0.mk (H0.out.trans (h.mono H0.out.size)); have HR1 := Aside0.mk (row_on h HR0.out); have HM1 := Aside0.mk (row_on h HM0.out); (clear h); (try clear a0 a1 a2 a3 a4 a5 a6 a7 b0 b1 b2 b3 b4 b5 b6 b7 d0 d1 d2 d3 d4 d5 d6 d7 e0 e1 e2 e3 e4 e5 e6 e7); obtain ⟨⟨a0, a1, a2, a3, a4, a5, a6, a7⟩, b0, b1, b2, b3, b4, b5, b6, b7⟩ := cells8 HR1.out; obtain ⟨⟨d0, d1, d2, d3, d4, d5, d6, d7⟩, e0, e1, e2, e3, e4, e5, e6, e7⟩ := cells8 HM1.out))
   have hcv := bt_string (HBL.out w1 (HBT.out.on H1.out))
   go_upto_region 7 with (first | (go_at_call 64; (with_reducible refine Calls.mono (HC1.out _) ?_); rintro e w2 ⟨rfl, h⟩; have H2 := Aside0.mk (H1.out.trans (h.mono H1.out.size)); have HR2 := Aside0.mk (row_on h HR1.out); have HM2 := Aside0.mk (row_on h HM1.out); (try clear hcv); (clear h); (try clear a0 a1 a2 a3 a4 a5 a6 a7 b0 b1 b2 b3 b4 b5 b6 b7 d0 d1 d2 d3 d4 d5 d6 d7 e0 e1 e2 e3 e4 e5 e6 e7); obtain ⟨⟨a0, a1, a2, a3, a4, a5, a6, a7⟩, b0, b1, b2, b3, b4, b5, b6, b7⟩ := cells8 HR2.out; obtain ⟨⟨d0, d1, d2, d3, d4, d5, d6, d7⟩, e0, e1, e2, e3, e4, e5, e6, e7⟩ := cells8 HM2.out) | (go_at_call 65; (with_reducible refine Calls.mono (HP1.out _) ?_); rintro e w3 ⟨rfl, h⟩; have H3 := Aside0.mk (H2.out.trans (h.mono H2.out.size)); have HR3 := Aside0.mk (row_on h HR2.out); have HM3 := Aside0.mk (row_on h HM2.out); (clear h); (try clear a0 a1 a2 a3 a4 a5 a6 a7 b0 b1 b2 b3 b4 b5 b6 b7 d0 d1 d2 d3 d4 d5 d6 d7 e0 e1 e2 e3 e4 e5 e6 e7); obtain ⟨⟨a0, a1, a2, a3, a4, a5, a6, a7⟩, b0, b1, b2, b3, b4, b5, b6, b7⟩ := cells8 HR3.out; obtain ⟨⟨d0, d1, d2, d3, d4, d5, d6, d7⟩, e0, e1, e2, e3, e4, e5, e6, e7⟩ := cells8 HM3.out))
   obtain ⟨w4, hww4⟩ : ∃ w4, w4 = w3.alloc (.cells #[.bool false, .string { data := #[] }, .string { data := #[] }] 43) := ⟨_, rfl⟩
   rw [← hww4]
   have hbw4 : Below w3.heap.size w3 w4 := by rw [hww4]; exact (Below.refl _ _).alloc (Nat.le_refl _) _
   have HP4 := Aside0.mk (show w4.heap[w3.heap.size]? = some (.cells #[.bool false, .string { data := #[] }, .string { data := #[] }] 43 (0, 0)) by rw [hww4]; exact heap_alloc_new _ _)
   have H4 := Aside0.mk (H3.out.trans (hbw4.mono H3.out.size))
   have HR4 := Aside0.mk (row_on hbw4 HR3.out)
   have HM4 := Aside0.mk (row_on hbw4 HM3.out)
   clear hww4 hbw4
   clear a0 a1 a2 a3 a4 a5 a6 a7 b0 b1 b2 b3 b4 b5 b6 b7 d0 d1 d2 d3 d4 d5 d6 d7 e0 e1 e2 e3 e4 e5 e6 e7
   obtain ⟨⟨a0, a1, a2, a3, a4, a5, a6, a7⟩, b0, b1, b2, b3, b4, b5, b6, b7⟩ := cells8 HR4.out
   obtain ⟨⟨d0, d1, d2, d3, d4, d5, d6, d7⟩, e0, e1, e2, e3, e4, e5, e6, e7⟩ := cells8 HM4.out
   obtain ⟨f0, f1, f2, f3, f4, f5⟩ := cells3 HP4.out
   go_wp2_with (fail)
   refine bodyPost_ret (v := .tuple #[.agg #[.bool false, .string { data := #[] }, .string { data := #[] }, .slice none 0 0, .slice none 0 0, .bool false, .string { data := #[] }, .int .i64 0], .int .i64 0, .bool false]) ?_ rfl ⟨(by rw [HNO.out]; exact no_post), ?_⟩
   ·exact results_ctt (by rfl) _ _ w.heap.size 46 _ (0, 0) _ rfl (row8_all HR4.out) Tryz.underlying46 rfl (by kernel_rfl) _ _ rfl rfl
   ·exact below8 H4.out (Nat.le_refl _)
  | some s =>
   have HC1 := Aside0.mk (show ∀ (W : World), Calls Tryz.prog 64 #[.string (str line), .string { data := #[77, 65, 73, 76, 32, 70, 82, 79, 77, 58] }] W fun e w' => e = .returned (.tuple #[.string (str s), .bool true]) ∧ Below W.heap.size W w' from hc1)
   have hsl' := hSl s rfl
   cases hp : V.pparse s with
   | none =>
    have hp1 := HPAR.out s
    rw [hp] at hp1
    have HP1 := Aside0.mk (show ∀ (W : World), Calls Tryz.prog 65 #[.string (str s)] W fun e w' => e = .returned (.tuple #[.agg #[.bool false, .string { data := #[] }, .string { data := #[] }], .bool false]) ∧ Below W.heap.size W w' from fun W => hp1 W hsl')
    have HNO := Aside0.mk (show O = none by rw [HRD.out]; unfold B.rhd; simp only [hp])
    have HSL := Aside0.mk hsl'
    clear hc1 hSl hp1 hp hsl'
    go_enter Tryz.func40, Tryz.ntmps40
    go_upto_region 2 with (fail)
    rw [← HW0.out]
    go_upto_region 5 with (first | (go_at_call 37; (with_reducible refine Calls.mono (HE.out _ hx0 H0.out) ?_); rintro e w1 ⟨rfl, h⟩; have H1 := Aside0.mk (H0.out.trans (h.mono H0.out.size)); have HR1 := Aside0.mk (row_on h HR0.out); have HM1 := Aside0.mk (row_on h HM0.out); (clear h); (try clear a0 a1 a2 a3 a4 a5 a6 a7 b0 b1 b2 b3 b4 b5 b6 b7 d0 d1 d2 d3 d4 d5 d6 d7 e0 e1 e2 e3 e4 e5 e6 e7); obtain ⟨⟨a0, a1, a2, a3, a4, a5, a6, a7⟩, b0, b1, b2, b3, b4, b5, b6, b7⟩ := cells8 HR1.out; obtain ⟨⟨d0, d1, d2, d3, d4, d5, d6, d7⟩, e0, e1, e2, e3, e4, e5, e6, e7⟩ := cells8 HM1.out))
    have hcv := bt_string (HBL.out w1 (HBT.out.on H1.out))
    go_upto_region 7 with (first | (go_at_call 64; (with_reducible refine Calls.mono (HC1.out _) ?_); rintro e w2 ⟨rfl, h⟩; have H2 := Aside0.mk (H1.out.trans (h.mono H1.out.size)); have HR2 := Aside0.mk (row_on h HR1.out); have HM2 := Aside0.mk (row_on h HM1.out); (try clear hcv); (clear h); (try clear a0 a1 a2 a3 a4 a5 a6 a7 b0 b1 b2 b3 b4 b5 b6 b7 d0 d1 d2 d3 d4 d5 d6 d7 e0 e1 e2 e3 e4 e5 e6 e7); obtain ⟨⟨a0, a1, a2, a3, a4, a5, a6, a7⟩, b0, b1, b2, b3, b4, b5, b6, b7⟩ := cells8 HR2.out; obtain ⟨⟨d0, d1, d2, d3, d4, d5, d6, d7⟩, e0, e1, e2, e3, e4, e5, e6, e7⟩ := cells8 HM2.out) | (go_at_call 65; (with_reducible refine Calls.mono (HP1.out _) ?_); rintro e w3 ⟨rfl, h⟩; have H3 := Aside0.mk (H2.out.trans (h.mono H2.out.size)); have HR3 := Aside0.mk (row_on h HR2.out); have HM3 := Aside0.mk (row_on h HM2.out); (clear h); (try clear a0 a1 a2 a3 a4 a5 a6 a7 b0 b1 b2 b3 b4 b5 b6 b7 d0 d1 d2 d3 d4 d5 d6 d7 e0 e1 e2 e3 e4 e5 e6 e7); obtain ⟨⟨a0, a1, a2, a3, a4, a5, a6, a7⟩, b0, b1, b2, b3, b4, b5, b6, b7⟩ := cells8 HR3.out; obtain ⟨⟨d0, d1, d2, d3, d4, d5, d6, d7⟩, e0, e1, e2, e3, e4, e5, e6, e7⟩ := cells8 HM3.out))
    obtain ⟨w4, hww4⟩ : ∃ w4, w4 = w3.alloc (.cells #[.bool false, .string { data := #[] }, .string { data := #[] }] 43) := ⟨_, rfl⟩
    rw [← hww4]
    have hbw4 : Below w3.heap.size w3 w4 := by rw [hww4]; exact (Below.refl _ _).alloc (Nat.le_refl _) _
    have HP4 := Aside0.mk (show w4.heap[w3.heap.size]? = some (.cells #[.bool false, .string { data := #[] }, .string { data := #[] }] 43 (0, 0)) by rw [hww4]; exact heap_alloc_new _ _)
    have H4 := Aside0.mk (H3.out.trans (hbw4.mono H3.out.size))
    have HR4 := Aside0.mk (row_on hbw4 HR3.out)
    have HM4 := Aside0.mk (row_on hbw4 HM3.out)
    clear hww4 hbw4
    clear a0 a1 a2 a3 a4 a5 a6 a7 b0 b1 b2 b3 b4 b5 b6 b7 d0 d1 d2 d3 d4 d5 d6 d7 e0 e1 e2 e3 e4 e5 e6 e7
    obtain ⟨⟨a0, a1, a2, a3, a4, a5, a6, a7⟩, b0, b1, b2, b3, b4, b5, b6, b7⟩ := cells8 HR4.out
    obtain ⟨⟨d0, d1, d2, d3, d4, d5, d6, d7⟩, e0, e1, e2, e3, e4, e5, e6, e7⟩ := cells8 HM4.out
    obtain ⟨f0, f1, f2, f3, f4, f5⟩ := cells3 HP4.out
    go_wp2_with (fail)
    refine bodyPost_ret (v := .tuple #[.agg #[.bool false, .string { data := #[] }, .string { data := #[] }, .slice none 0 0, .slice none 0 0, .bool false, .string { data := #[] }, .int .i64 0], .int .i64 0, .bool false]) ?_ rfl ⟨(by rw [HNO.out]; exact no_post), ?_⟩
    ·exact results_ctt (by rfl) _ _ w.heap.size 46 _ (0, 0) _ rfl (row8_all HR4.out) Tryz.underlying46 rfl (by kernel_rfl) _ _ rfl rfl
    ·exact below8 H4.out (Nat.le_refl _)
   | some p =>
    have hp1 := HPAR.out s
    rw [hp] at hp1
    have HP1 := Aside0.mk (show ∀ (W : World), Calls Tryz.prog 65 #[.string (str s)] W fun e w' => e = .returned (.tuple #[.agg #[.bool p.null, .string (str p.loc), .string (str p.dom)], .bool true]) ∧ Below W.heap.size W w' from fun W => hp1 W hsl')
    have HRF := Aside0.mk (show O = B.rfin p [] (B.rtos (rest.length + 1) 0 rest) by rw [HRD.out]; unfold B.rhd; simp only [hp])
    clear hc1 hSl hp1 hp hsl' HRD
    go_enter Tryz.func40, Tryz.ntmps40
    go_upto_region 2 with (fail)
    rw [← HW0.out]
    go_upto_region 5 with (first | (go_at_call 37; (with_reducible refine Calls.mono (HE.out _ hx0 H0.out) ?_); rintro e w1 ⟨rfl, h⟩; have H1 := Aside0.mk (H0.out.trans (h.mono H0.out.size)); have HR1 := Aside0.mk (row_on h HR0.out); have HM1 := Aside0.mk (row_on h HM0.out); (clear h); (try clear a0 a1 a2 a3 a4 a5 a6 a7 b0 b1 b2 b3 b4 b5 b6 b7 d0 d1 d2 d3 d4 d5 d6 d7 e0 e1 e2 e3 e4 e5 e6 e7); obtain ⟨⟨a0, a1, a2, a3, a4, a5, a6, a7⟩, b0, b1, b2, b3, b4, b5, b6, b7⟩ := cells8 HR1.out; obtain ⟨⟨d0, d1, d2, d3, d4, d5, d6, d7⟩, e0, e1, e2, e3, e4, e5, e6, e7⟩ := cells8 HM1.out))
    have hcv := bt_string (HBL.out w1 (HBT.out.on H1.out))
    go_upto_region 7 with (first | (go_at_call 64; (with_reducible refine Calls.mono (HC1.out _) ?_); rintro e w2 ⟨rfl, h⟩; have H2 := Aside0.mk (H1.out.trans (h.mono H1.out.size)); have HR2 := Aside0.mk (row_on h HR1.out); have HM2 := Aside0.mk (row_on h HM1.out); (try clear hcv); (clear h); (try clear a0 a1 a2 a3 a4 a5 a6 a7 b0 b1 b2 b3 b4 b5 b6 b7 d0 d1 d2 d3 d4 d5 d6 d7 e0 e1 e2 e3 e4 e5 e6 e7); obtain ⟨⟨a0, a1, a2, a3, a4, a5, a6, a7⟩, b0, b1, b2, b3, b4, b5, b6, b7⟩ := cells8 HR2.out; obtain ⟨⟨d0, d1, d2, d3, d4, d5, d6, d7⟩, e0, e1, e2, e3, e4, e5, e6, e7⟩ := cells8 HM2.out) | (go_at_call 65; (with_reducible refine Calls.mono (HP1.out _) ?_); rintro e w3 ⟨rfl, h⟩; have H3 := Aside0.mk (H2.out.trans (h.mono H2.out.size)); have HR3 := Aside0.mk (row_on h HR2.out); have HM3 := Aside0.mk (row_on h HM2.out); (clear h); (try clear a0 a1 a2 a3 a4 a5 a6 a7 b0 b1 b2 b3 b4 b5 b6 b7 d0 d1 d2 d3 d4 d5 d6 d7 e0 e1 e2 e3 e4 e5 e6 e7); obtain ⟨⟨a0, a1, a2, a3, a4, a5, a6, a7⟩, b0, b1, b2, b3, b4, b5, b6, b7⟩ := cells8 HR3.out; obtain ⟨⟨d0, d1, d2, d3, d4, d5, d6, d7⟩, e0, e1, e2, e3, e4, e5, e6, e7⟩ := cells8 HM3.out))
    obtain ⟨w4, hww4⟩ : ∃ w4, w4 = w3.alloc (.cells #[.bool p.null, .string (str p.loc), .string (str p.dom)] 43) := ⟨_, rfl⟩
    rw [← hww4]
    have hbw4 : Below w3.heap.size w3 w4 := by rw [hww4]; exact (Below.refl _ _).alloc (Nat.le_refl _) _
    have HP4 := Aside0.mk (show w4.heap[w3.heap.size]? = some (.cells #[.bool p.null, .string (str p.loc), .string (str p.dom)] 43 (0, 0)) by rw [hww4]; exact heap_alloc_new _ _)
    have H4 := Aside0.mk (H3.out.trans (hbw4.mono H3.out.size))
    have HR4 := Aside0.mk (row_on hbw4 HR3.out)
    have HM4 := Aside0.mk (row_on hbw4 HM3.out)
    clear hww4 hbw4
    clear a0 a1 a2 a3 a4 a5 a6 a7 b0 b1 b2 b3 b4 b5 b6 b7 d0 d1 d2 d3 d4 d5 d6 d7 e0 e1 e2 e3 e4 e5 e6 e7
    obtain ⟨⟨a0, a1, a2, a3, a4, a5, a6, a7⟩, b0, b1, b2, b3, b4, b5, b6, b7⟩ := cells8 HR4.out
    obtain ⟨⟨d0, d1, d2, d3, d4, d5, d6, d7⟩, e0, e1, e2, e3, e4, e5, e6, e7⟩ := cells8 HM4.out
    obtain ⟨f0, f1, f2, f3, f4, f5⟩ := cells3 HP4.out
    go_wp2_with (fail)
    go_loopg [1] t.length (fun gf v1 wr => ∃ (ts : List V.Path) (x : Nat) (v3 : Value) (k : Nat), v1 = .int .i64 (x : Int) ∧ x ≤ t.length ∧ t.length ≤ x + gf ∧ Aside0 (t.length < x + k ∧ O = B.rfin p ts (B.rtos k ts.length (t.drop x))) ∧ ts.length ≤ 8 ∧ Aside0 (Below w.heap.size w wr ∧ wr.heap[w.heap.size]? = some (.cells #[.bool false, .string { data := #[] }, .string { data := #[] }, .slice none 0 0, .slice none 0 0, .bool false, .string { data := #[] }, .int .i64 0] 46 (0, 0)) ∧ wr.heap[w.heap.size + 1]? = some (.cells #[.bool p.null, .string (str p.loc), .string (str p.dom), v3, .slice none 0 0, .bool false, .string { data := #[] }, .int .i64 0] 46 (0, 0)) ∧ Ps w.heap.size wr v3 ts))
    case atStart =>
     have hq := HQ.out
     exact ⟨[], E + 2, .slice none 0 0, rest.length + 1, by go_num, by omega, by omega, ⟨by omega, by rw [hq.2]; exact HRF.out⟩, by simp, ⟨((H4.out.setCell (Nat.le_succ _) _).setCell (Nat.le_succ _) _).setCell (Nat.le_succ _) _, rowM_far HR4.out (by omega), row8_p HM4.out, Kd.R_nil _ _ _ _ _⟩⟩
    case round =>
     obtain ⟨ts, x, v3, k, rfl, hx, hgx, HT, hts, H⟩ := hrel
     obtain ⟨w5, rfl⟩ : ∃ wz : World, wz = wr := ⟨_, rfl⟩
     obtain ⟨A3, c3, rfl⟩ := Kd.R_slice H.out.2.2.2
     have H5 := Aside0.mk H.out.1
     have HR5 := Aside0.mk H.out.2.1
     have HM5 := Aside0.mk H.out.2.2.1
     have HS5 := Aside0.mk H.out.2.2.2
     clear a0 a1 a2 a3 a4 a5 a6 a7 b0 b1 b2 b3 b4 b5 b6 b7 d0 d1 d2 d3 d4 d5 d6 d7 e0 e1 e2 e3 e4 e5 e6 e7 f0 f1 f2 f3 f4 f5 H
     obtain ⟨⟨a0, a1, a2, a3, a4, a5, a6, a7⟩, b0, b1, b2, b3, b4, b5, b6, b7⟩ := cells8 HR5.out
     obtain ⟨⟨d0, d1, d2, d3, d4, d5, d6, d7⟩, e0, e1, e2, e3, e4, e5, e6, e7⟩ := cells8 HM5.out
     obtain ⟨k, rfl⟩ : ∃ k', k = k' + 1 := ⟨k - 1, by have := HT.out.1; omega⟩
     cases hc : B.cut (t.drop x) with
     | none =>
      have hE := HEND.out x
      unfold B.rend at hE
      rw [hc] at hE
      have HE2 := Aside0.mk hE
      have HNO := Aside0.mk (show O = none by rw [HT.out.2, rtos_no hc]; rfl)
      clear hE hc
      go_wp2_with (first | (go_at_call 37; (with_reducible refine Calls.mono (HE2.out _ hx H5.out) ?_); rintro e w6 ⟨rfl, h⟩; have H6 := Aside0.mk (H5.out.trans (h.mono H5.out.size)); have HR6 := Aside0.mk (row_on h HR5.out); have HM6 := Aside0.mk (row_on h HM5.out); have HS6 := Aside0.mk (Kd.R_below HS5.out h); (clear h); (try clear a0 a1 a2 a3 a4 a5 a6 a7 b0 b1 b2 b3 b4 b5 b6 b7 d0 d1 d2 d3 d4 d5 d6 d7 e0 e1 e2 e3 e4 e5 e6 e7); obtain ⟨⟨a0, a1, a2, a3, a4, a5, a6, a7⟩, b0, b1, b2, b3, b4, b5, b6, b7⟩ := cells8 HR6.out; obtain ⟨⟨d0, d1, d2, d3, d4, d5, d6, d7⟩, e0, e1, e2, e3, e4, e5, e6, e7⟩ := cells8 HM6.out))
      refine bodyPost_ret (v := .tuple #[.agg #[.bool p.null, .string (str p.loc), .string (str p.dom), .slice A3 ts.length c3, .slice none 0 0, .bool false, .string { data := #[] }, .int .i64 0], .int .i64 0, .bool false]) ?_ rfl ⟨(by rw [HNO.out]; exact no_post), ?_⟩
      ·exact results_ctt (by rfl) _ _ w.heap.size 46 _ (0, 0) _ rfl (row8_all HR6.out) Tryz.underlying46 rfl (by kernel_rfl) _ _ rfl rfl
      ·exact below8 H6.out (Nat.le_refl _)
     | some q =>
      obtain ⟨line2, rest2⟩ := q
      obtain ⟨q1, q2, q3, q4⟩ := line_at hc hx
      obtain ⟨F, hF⟩ : ∃ F, F = x + line2.length := ⟨_, rfl⟩
      rw [← hF] at q1 q3 q4
      obtain ⟨A4, c4, hsl2, hbt⟩ := line_sl (A := A) (c := c) hc hx hcap hF
      obtain ⟨A5, c5, hsl3, hbt3⟩ := rest_sl (A := A) (c := c) hc hx hF
      have HBL2 := Aside0.mk hbt
      have HBR2 := Aside0.mk hbt3
      have hF1 : (F : Int) ≤ 50000 := by omega
      have hF2 : x ≤ F := by omega
      have hgk1 : 1 ≤ gk := by omega
      have hE2 := HEND.out x
      rw [q4] at hE2
      have HE2 := Aside0.mk hE2
      have HQ2 := Aside0.mk (And.intro q1 q3)
      have hll : line2.length ≤ 60000 := by omega
      have hrl : rest2.length ≤ 60000 := by omega
      clear q2 q1 q3 q4 hbt hbt3 hE2 hF
      by_cases hpre : B.wTo.isPrefixOf line2 = true
      ·have hc1 := HCUT.out line2 B.wTo
       rw [if_pos hpre] at hc1
       have HRT := Aside0.mk (show O = B.rfin p ts _ by rw [HT.out.2, rtos_to hc hpre])
       obtain ⟨s2, hs2⟩ : ∃ s2, s2 = line2.drop B.wTo.length := ⟨_, rfl⟩
       rw [← hs2] at hc1 HRT
       have HC2 := Aside0.mk (show ∀ (W : World), Calls Tryz.prog 64 #[.string (str line2), .string { data := #[82, 67, 80, 84, 32, 84, 79, 58] }] W fun e w' => e = .returned (.tuple #[.string (str s2), .bool true]) ∧ Below W.heap.size W w' from hc1)
       have hs2l : s2.length ≤ 60000 := by rw [hs2, List.length_drop]; omega
       clear hc1 hpre hc hs2
       cases hp2 : V.pparse s2 with
       | none =>
        have hp1 := HPAR.out s2
        rw [hp2] at hp1
        have HP2 := Aside0.mk (show ∀ (W : World), Calls Tryz.prog 65 #[.string (str s2)] W fun e w' => e = .returned (.tuple #[.agg #[.bool false, .string { data := #[] }, .string { data := #[] }], .bool false]) ∧ Below W.heap.size W w' from fun W => hp1 W hs2l)
        have HNO := Aside0.mk (show O = none by rw [HRT.out]; simp only [hp2]; rfl)
        have HSL := Aside0.mk hs2l
        clear hp1 hp2 hs2l
        go_upto_region 14 with (first | (go_at_call 37; (with_reducible refine Calls.mono (HE2.out _ hx H5.out) ?_); rintro e w6 ⟨rfl, h⟩; have H6 := Aside0.mk (H5.out.trans (h.mono H5.out.size)); have HR6 := Aside0.mk (row_on h HR5.out); have HM6 := Aside0.mk (row_on h HM5.out); have HS6 := Aside0.mk (Kd.R_below HS5.out h); (clear h); (try clear a0 a1 a2 a3 a4 a5 a6 a7 b0 b1 b2 b3 b4 b5 b6 b7 d0 d1 d2 d3 d4 d5 d6 d7 e0 e1 e2 e3 e4 e5 e6 e7); obtain ⟨⟨a0, a1, a2, a3, a4, a5, a6, a7⟩, b0, b1, b2, b3, b4, b5, b6, b7⟩ := cells8 HR6.out; obtain ⟨⟨d0, d1, d2, d3, d4, d5, d6, d7⟩, e0, e1, e2, e3, e4, e5, e6, e7⟩ := cells8 HM6.out))
        have hcv := bt_string (HBL2.out w6 (HBT.out.on H6.out))
        go_upto_region 17 with (first | (go_at_call 64; (with_reducible refine Calls.mono (HC2.out _) ?_); rintro e w7 ⟨rfl, h⟩; have H7 := Aside0.mk (H6.out.trans (h.mono H6.out.size)); have HR7 := Aside0.mk (row_on h HR6.out); have HM7 := Aside0.mk (row_on h HM6.out); (try clear hcv); (clear h); (try clear a0 a1 a2 a3 a4 a5 a6 a7 b0 b1 b2 b3 b4 b5 b6 b7 d0 d1 d2 d3 d4 d5 d6 d7 e0 e1 e2 e3 e4 e5 e6 e7); obtain ⟨⟨a0, a1, a2, a3, a4, a5, a6, a7⟩, b0, b1, b2, b3, b4, b5, b6, b7⟩ := cells8 HR7.out; obtain ⟨⟨d0, d1, d2, d3, d4, d5, d6, d7⟩, e0, e1, e2, e3, e4, e5, e6, e7⟩ := cells8 HM7.out) | (go_at_call 65; (with_reducible refine Calls.mono (HP2.out _) ?_); rintro e w8 ⟨rfl, h⟩; have H8 := Aside0.mk (H7.out.trans (h.mono H7.out.size)); have HR8 := Aside0.mk (row_on h HR7.out); have HM8 := Aside0.mk (row_on h HM7.out); (clear h); (try clear a0 a1 a2 a3 a4 a5 a6 a7 b0 b1 b2 b3 b4 b5 b6 b7 d0 d1 d2 d3 d4 d5 d6 d7 e0 e1 e2 e3 e4 e5 e6 e7); obtain ⟨⟨a0, a1, a2, a3, a4, a5, a6, a7⟩, b0, b1, b2, b3, b4, b5, b6, b7⟩ := cells8 HR8.out; obtain ⟨⟨d0, d1, d2, d3, d4, d5, d6, d7⟩, e0, e1, e2, e3, e4, e5, e6, e7⟩ := cells8 HM8.out))
        obtain ⟨w9, hww9⟩ : ∃ w9, w9 = w8.alloc (.cells #[.bool false, .string { data := #[] }, .string { data := #[] }] 43) := ⟨_, rfl⟩
        rw [← hww9]
        have hbw9 : Below w8.heap.size w8 w9 := by rw [hww9]; exact (Below.refl _ _).alloc (Nat.le_refl _) _
        have HP9 := Aside0.mk (show w9.heap[w8.heap.size]? = some (.cells #[.bool false, .string { data := #[] }, .string { data := #[] }] 43 (0, 0)) by rw [hww9]; exact heap_alloc_new _ _)
        have H9 := Aside0.mk (H8.out.trans (hbw9.mono H8.out.size))
        have HR9 := Aside0.mk (row_on hbw9 HR8.out)
        have HM9 := Aside0.mk (row_on hbw9 HM8.out)
        clear hww9 hbw9
        clear a0 a1 a2 a3 a4 a5 a6 a7 b0 b1 b2 b3 b4 b5 b6 b7 d0 d1 d2 d3 d4 d5 d6 d7 e0 e1 e2 e3 e4 e5 e6 e7
        obtain ⟨⟨a0, a1, a2, a3, a4, a5, a6, a7⟩, b0, b1, b2, b3, b4, b5, b6, b7⟩ := cells8 HR9.out
        obtain ⟨⟨d0, d1, d2, d3, d4, d5, d6, d7⟩, e0, e1, e2, e3, e4, e5, e6, e7⟩ := cells8 HM9.out
        obtain ⟨f0, f1, f2, f3, f4, f5⟩ := cells3 HP9.out
        go_wp2_with (fail)
        refine bodyPost_ret (v := .tuple #[.agg #[.bool p.null, .string (str p.loc), .string (str p.dom), .slice A3 ts.length c3, .slice none 0 0, .bool false, .string { data := #[] }, .int .i64 0], .int .i64 0, .bool false]) ?_ rfl ⟨(by rw [HNO.out]; exact no_post), ?_⟩
        ·exact results_ctt (by rfl) _ _ w.heap.size 46 _ (0, 0) _ rfl (row8_all HR9.out) Tryz.underlying46 rfl (by kernel_rfl) _ _ rfl rfl
        ·exact below8 H9.out (Nat.le_refl _)
       | some p2 =>
        have hp1 := HPAR.out s2
        rw [hp2] at hp1
        have HP2 := Aside0.mk (show ∀ (W : World), Calls Tryz.prog 65 #[.string (str s2)] W fun e w' => e = .returned (.tuple #[.agg #[.bool p2.null, .string (str p2.loc), .string (str p2.dom)], .bool true]) ∧ Below W.heap.size W w' from fun W => hp1 W hs2l)
        have HRT2 := Aside0.mk (show O = B.rfin p ts (if 8 ≤ ts.length then none else B.rcons p2 (B.rtos k (ts.length + 1) rest2)) by rw [HRT.out]; simp only [hp2])
        clear hp1 hp2 hs2l HRT
        go_upto_region 14 with (first | (go_at_call 37; (with_reducible refine Calls.mono (HE2.out _ hx H5.out) ?_); rintro e w6 ⟨rfl, h⟩; have H6 := Aside0.mk (H5.out.trans (h.mono H5.out.size)); have HR6 := Aside0.mk (row_on h HR5.out); have HM6 := Aside0.mk (row_on h HM5.out); have HS6 := Aside0.mk (Kd.R_below HS5.out h); (clear h); (try clear a0 a1 a2 a3 a4 a5 a6 a7 b0 b1 b2 b3 b4 b5 b6 b7 d0 d1 d2 d3 d4 d5 d6 d7 e0 e1 e2 e3 e4 e5 e6 e7); obtain ⟨⟨a0, a1, a2, a3, a4, a5, a6, a7⟩, b0, b1, b2, b3, b4, b5, b6, b7⟩ := cells8 HR6.out; obtain ⟨⟨d0, d1, d2, d3, d4, d5, d6, d7⟩, e0, e1, e2, e3, e4, e5, e6, e7⟩ := cells8 HM6.out))
        have hcv := bt_string (HBL2.out w6 (HBT.out.on H6.out))
        go_upto_region 17 with (first | (go_at_call 64; (with_reducible refine Calls.mono (HC2.out _) ?_); rintro e w7 ⟨rfl, h⟩; have H7 := Aside0.mk (H6.out.trans (h.mono H6.out.size)); have HR7 := Aside0.mk (row_on h HR6.out); have HM7 := Aside0.mk (row_on h HM6.out); (try clear hcv); have HS7 := Aside0.mk (Kd.R_below HS6.out h); (clear h); (try clear a0 a1 a2 a3 a4 a5 a6 a7 b0 b1 b2 b3 b4 b5 b6 b7 d0 d1 d2 d3 d4 d5 d6 d7 e0 e1 e2 e3 e4 e5 e6 e7); obtain ⟨⟨a0, a1, a2, a3, a4, a5, a6, a7⟩, b0, b1, b2, b3, b4, b5, b6, b7⟩ := cells8 HR7.out; obtain ⟨⟨d0, d1, d2, d3, d4, d5, d6, d7⟩, e0, e1, e2, e3, e4, e5, e6, e7⟩ := cells8 HM7.out) | (go_at_call 65; (with_reducible refine Calls.mono (HP2.out _) ?_); rintro e w8 ⟨rfl, h⟩; have H8 := Aside0.mk (H7.out.trans (h.mono H7.out.size)); have HR8 := Aside0.mk (row_on h HR7.out); have HM8 := Aside0.mk (row_on h HM7.out); have HS8 := Aside0.mk (Kd.R_below HS7.out h); (clear h); (try clear a0 a1 a2 a3 a4 a5 a6 a7 b0 b1 b2 b3 b4 b5 b6 b7 d0 d1 d2 d3 d4 d5 d6 d7 e0 e1 e2 e3 e4 e5 e6 e7); obtain ⟨⟨a0, a1, a2, a3, a4, a5, a6, a7⟩, b0, b1, b2, b3, b4, b5, b6, b7⟩ := cells8 HR8.out; obtain ⟨⟨d0, d1, d2, d3, d4, d5, d6, d7⟩, e0, e1, e2, e3, e4, e5, e6, e7⟩ := cells8 HM8.out))
        obtain ⟨w9, hww9⟩ : ∃ w9, w9 = w8.alloc (.cells #[.bool p2.null, .string (str p2.loc), .string (str p2.dom)] 43) := ⟨_, rfl⟩
        rw [← hww9]
        have hbw9 : Below w8.heap.size w8 w9 := by rw [hww9]; exact (Below.refl _ _).alloc (Nat.le_refl _) _
        have HP9 := Aside0.mk (show w9.heap[w8.heap.size]? = some (.cells #[.bool p2.null, .string (str p2.loc), .string (str p2.dom)] 43 (0, 0)) by rw [hww9]; exact heap_alloc_new _ _)
        have H9 := Aside0.mk (H8.out.trans (hbw9.mono H8.out.size))
        have HR9 := Aside0.mk (row_on hbw9 HR8.out)
        have HM9 := Aside0.mk (row_on hbw9 HM8.out)
        have HS9 := Aside0.mk (Kd.R_below HS8.out hbw9)
        clear hww9 hbw9
        clear a0 a1 a2 a3 a4 a5 a6 a7 b0 b1 b2 b3 b4 b5 b6 b7 d0 d1 d2 d3 d4 d5 d6 d7 e0 e1 e2 e3 e4 e5 e6 e7
        obtain ⟨⟨a0, a1, a2, a3, a4, a5, a6, a7⟩, b0, b1, b2, b3, b4, b5, b6, b7⟩ := cells8 HR9.out
        obtain ⟨⟨d0, d1, d2, d3, d4, d5, d6, d7⟩, e0, e1, e2, e3, e4, e5, e6, e7⟩ := cells8 HM9.out
        obtain ⟨f0, f1, f2, f3, f4, f5⟩ := cells3 HP9.out
        by_cases h8 : 8 ≤ ts.length
        ·have HNO := Aside0.mk (show O = none by rw [HRT2.out, if_pos h8]; rfl)
         have t1 : decide ((8 : Int) ≤ (ts.length : Int)) = true := by simp; omega
         have t2 : (8 : Int) ≤ (ts.length : Int) := by omega
         go_wp2_with (fail)
         refine bodyPost_ret (v := .tuple #[.agg #[.bool p.null, .string (str p.loc), .string (str p.dom), .slice A3 ts.length c3, .slice none 0 0, .bool false, .string { data := #[] }, .int .i64 0], .int .i64 0, .bool false]) ?_ rfl ⟨(by rw [HNO.out]; exact no_post), ?_⟩
         ·exact results_ctt (by rfl) _ _ w.heap.size 46 _ (0, 0) _ rfl (row8_all HR9.out) Tryz.underlying46 rfl (by kernel_rfl) _ _ rfl rfl
         ·exact below8 H9.out (Nat.le_refl _)
        ·have HRT3 := Aside0.mk (show O = B.rfin p (ts ++ [p2]) (B.rtos k (ts.length + 1) rest2) by rw [HRT2.out, if_neg h8]; exact rfin_step)
         have t1 : decide ((8 : Int) ≤ (ts.length : Int)) = false := by simp; omega
         have t2 : ¬ (8 : Int) ≤ (ts.length : Int) := by omega
         clear HRT2
         go_wp2_with (first | ((with_reducible refine gate_builtin (b := .append) (xs := #[.tmp 83, .tmp 85]) rfl ?_); at_builtin; refine Kd.R_append kPath (w0 := w) w.heap.size rfl (.tmp 83) (.tmp 85) 44 43 (.agg #[.bool false, .string ⟨#[]⟩, .string ⟨#[]⟩]) 40 rfl Tryz.underlying44 infoPath rfl (by decide) (by omega) (.slice A3 ts.length c3) ts p2 (pcs p2) (fun _ => True) (fun _ => False) rfl rfl (kPath_mkM _ _ _ _) (fun k hk => hk.elim) (fun _ _ => trivial) HS9.out H9.out H9.out.size (by omega) ?_; intro v1 w10 hR10 hB10 hg10 _; have HR10 := Aside0.mk ((hg10.block w.heap.size (Array.getElem?_eq_some_iff.1 HR9.out).1 (Kd.R_ne HS9.out HR9.out (by decide))).trans HR9.out); have HM10 := Aside0.mk ((hg10.block (w.heap.size + 1) (Array.getElem?_eq_some_iff.1 HM9.out).1 (Kd.R_ne HS9.out HM9.out (by decide))).trans HM9.out); have HB10 := Aside0.mk hB10; obtain ⟨A7, c7, e⟩ := Kd.R_slice hR10; obtain ⟨N7, hN⟩ : ∃ N, N = (ts ++ [p2]).length := ⟨_, rfl⟩; rw [← hN] at e; subst e; have HS10 := Aside0.mk hR10; have HN7 := Aside0.mk hN; clear hR10 hB10 hg10 hN f0 f1 f2 f3 f4 f5; clear a0 a1 a2 a3 a4 a5 a6 a7 b0 b1 b2 b3 b4 b5 b6 b7 d0 d1 d2 d3 d4 d5 d6 d7 e0 e1 e2 e3 e4 e5 e6 e7; obtain ⟨⟨a0, a1, a2, a3, a4, a5, a6, a7⟩, b0, b1, b2, b3, b4, b5, b6, b7⟩ := cells8 HR10.out; obtain ⟨⟨d0, d1, d2, d3, d4, d5, d6, d7⟩, e0, e1, e2, e3, e4, e5, e6, e7⟩ := cells8 HM10.out))
         go_roundg (gk - 1)
         case measure => omega
         case rel =>
          have hq := HQ2.out
          have hn := HN7.out
          have ht := HT.out.1
          rw [List.length_append, List.length_singleton] at hn
          refine ⟨ts ++ [p2], F + 2, .slice A7 N7 c7, k, by go_num, by omega, by omega, ⟨by omega, by rw [hq.2, List.length_append, List.length_singleton]; exact HRT3.out⟩, by rw [List.length_append, List.length_singleton]; omega, ⟨HB10.out.setCell (Nat.le_succ _) _, ?_, row8_3 _ HM10.out, R_set HS10.out _ HM10.out pathE⟩⟩
          rw [Below.heap_setCell _ _ _ _ (show w.heap.size ≠ w.heap.size + 1 by omega)]
          exact HR10.out
      ·have hc1 := HCUT.out line2 B.wTo
       rw [if_neg hpre] at hc1
       have HC2 := Aside0.mk (show ∀ (W : World), Calls Tryz.prog 64 #[.string (str line2), .string { data := #[82, 67, 80, 84, 32, 84, 79, 58] }] W fun e w' => e = .returned (.tuple #[.string { data := #[] }, .bool false]) ∧ Below W.heap.size W w' from hc1)
       have HRT := Aside0.mk (show O = B.rfin p ts _ by rw [HT.out.2, rtos_end hc hpre])
       clear hc1 hpre hc
       go_upto_region 14 with (first | (go_at_call 37; (with_reducible refine Calls.mono (HE2.out _ hx H5.out) ?_); rintro e w6 ⟨rfl, h⟩; have H6 := Aside0.mk (H5.out.trans (h.mono H5.out.size)); have HR6 := Aside0.mk (row_on h HR5.out); have HM6 := Aside0.mk (row_on h HM5.out); have HS6 := Aside0.mk (Kd.R_below HS5.out h); (clear h); (try clear a0 a1 a2 a3 a4 a5 a6 a7 b0 b1 b2 b3 b4 b5 b6 b7 d0 d1 d2 d3 d4 d5 d6 d7 e0 e1 e2 e3 e4 e5 e6 e7); obtain ⟨⟨a0, a1, a2, a3, a4, a5, a6, a7⟩, b0, b1, b2, b3, b4, b5, b6, b7⟩ := cells8 HR6.out; obtain ⟨⟨d0, d1, d2, d3, d4, d5, d6, d7⟩, e0, e1, e2, e3, e4, e5, e6, e7⟩ := cells8 HM6.out))
       have hcv := bt_string (HBL2.out w6 (HBT.out.on H6.out))
       go_upto_region 15 with (first | (go_at_call 64; (with_reducible refine Calls.mono (HC2.out _) ?_); rintro e w7 ⟨rfl, h⟩; have H7 := Aside0.mk (H6.out.trans (h.mono H6.out.size)); have HR7 := Aside0.mk (row_on h HR6.out); have HM7 := Aside0.mk (row_on h HM6.out); (try clear hcv); have HS7 := Aside0.mk (Kd.R_below HS6.out h); (clear h); (try clear a0 a1 a2 a3 a4 a5 a6 a7 b0 b1 b2 b3 b4 b5 b6 b7 d0 d1 d2 d3 d4 d5 d6 d7 e0 e1 e2 e3 e4 e5 e6 e7); obtain ⟨⟨a0, a1, a2, a3, a4, a5, a6, a7⟩, b0, b1, b2, b3, b4, b5, b6, b7⟩ := cells8 HR7.out; obtain ⟨⟨d0, d1, d2, d3, d4, d5, d6, d7⟩, e0, e1, e2, e3, e4, e5, e6, e7⟩ := cells8 HM7.out))
       have hcv := bt_string (HBL2.out w7 (HBT.out.on H7.out))
       by_cases hd : line2 = [68, 65, 84, 65]
       ·have hne : ((str line2).toList == [68, 65, 84, 65]) = true := by rw [eq_const _ _ _ rfl, lst_str]; exact decide_eq_true hd
        have HRT2 := Aside0.mk (show O = B.rfin p ts (some ([], rest2)) by rw [HRT.out, if_pos hd])
        clear HRT hd
        cases hst : B.strip rest2 with
        | none =>
         have HNO := Aside0.mk (show O = none by rw [HRT2.out]; unfold B.rfin; simp only [hst])
         obtain ⟨E9, hE9⟩ : ∃ E9 : Int, E9 = if B.rdot rest2 < 0 then 9 else 5 := ⟨_, rfl⟩
         have hE0 : (E9 == 0) = false := by rw [hE9]; split <;> rfl
         have hE1 : (E9 != 0) = true := by rw [bne, hE0]; rfl
         have HSP := Aside0.mk (show Calls Tryz.prog 66 #[.slice A5 rest2.length c5] w7 fun e w' => (∃ v, e = .returned (.tuple #[v, .int .i64 0, .int .i64 E9])) ∧ Below w7.heap.size w7 w' from (rstrip_any (HBR2.out w7 (HBT.out.on H7.out)) (by omega)).mono (fun e w' h => ⟨by have h1 := h.1; rw [hst] at h1; rw [hE9]; exact h1, h.2⟩))
         clear hst hE9
         go_wp2_with (first | (go_at_call 66; (with_reducible refine Calls.mono (HSP.out) ?_); rintro e w8 ⟨⟨vs, rfl⟩, h⟩; have H8 := Aside0.mk (H7.out.trans (h.mono H7.out.size)); have HR8 := Aside0.mk (row_on h HR7.out); have HM8 := Aside0.mk (row_on h HM7.out); (clear h); (try clear a0 a1 a2 a3 a4 a5 a6 a7 b0 b1 b2 b3 b4 b5 b6 b7 d0 d1 d2 d3 d4 d5 d6 d7 e0 e1 e2 e3 e4 e5 e6 e7); obtain ⟨⟨a0, a1, a2, a3, a4, a5, a6, a7⟩, b0, b1, b2, b3, b4, b5, b6, b7⟩ := cells8 HR8.out; obtain ⟨⟨d0, d1, d2, d3, d4, d5, d6, d7⟩, e0, e1, e2, e3, e4, e5, e6, e7⟩ := cells8 HM8.out))
         refine bodyPost_ret (v := .tuple #[.agg #[.bool p.null, .string (str p.loc), .string (str p.dom), .slice A3 ts.length c3, .slice none 0 0, .bool false, .string { data := #[] }, .int .i64 0], .int .i64 0, .bool false]) ?_ rfl ⟨(by rw [HNO.out]; exact no_post), ?_⟩
         ·exact results_ctt (by rfl) _ _ w.heap.size 46 _ (0, 0) _ rfl (row8_all HR8.out) Tryz.underlying46 rfl (by kernel_rfl) _ _ rfl rfl
         ·exact below8 H8.out (Nat.le_refl _)
        | some bn =>
         obtain ⟨body, nx⟩ := bn
         have hnx := strip_le hst
         have HYES := Aside0.mk (show O = some (⟨p, ts, body, false, [], 0⟩, rest2.drop nx) by rw [HRT2.out]; unfold B.rfin; simp only [hst]; simp)
         have HSP := Aside0.mk (show Calls Tryz.prog 66 #[.slice A5 rest2.length c5] w7 fun e w' => (∃ v, e = .returned (.tuple #[v, .int .i64 (nx : Int), .int .i64 0]) ∧ Ow w7.heap.size w' v body) ∧ Below w7.heap.size w7 w' from (rstrip_any (HBR2.out w7 (HBT.out.on H7.out)) (by omega)).mono (fun e w' h => ⟨by have h1 := h.1; rw [hst] at h1; exact h1, h.2⟩))
         have hnx2 : (nx : Int) ≤ 60000 := by omega
         have HNX := Aside0.mk hnx
         clear hst hnx
         go_upto_region 26 with (first | (go_at_call 66; (with_reducible refine Calls.mono (HSP.out) ?_); rintro e w8 ⟨⟨v9, rfl, ho9⟩, h⟩; have H8 := Aside0.mk (H7.out.trans (h.mono H7.out.size)); have HR8 := Aside0.mk (row_on h HR7.out); have HM8 := Aside0.mk (row_on h HM7.out); have HS8 := Aside0.mk (Kd.R_below HS7.out h); obtain ⟨A9, c9, rfl, _⟩ := Ow.bt ho9; have HO8 := Aside0.mk (ho9.low H7.out.size); clear ho9; (clear h); (try clear a0 a1 a2 a3 a4 a5 a6 a7 b0 b1 b2 b3 b4 b5 b6 b7 d0 d1 d2 d3 d4 d5 d6 d7 e0 e1 e2 e3 e4 e5 e6 e7); obtain ⟨⟨a0, a1, a2, a3, a4, a5, a6, a7⟩, b0, b1, b2, b3, b4, b5, b6, b7⟩ := cells8 HR8.out; obtain ⟨⟨d0, d1, d2, d3, d4, d5, d6, d7⟩, e0, e1, e2, e3, e4, e5, e6, e7⟩ := cells8 HM8.out))
         go_wp2_with (fail)
         obtain ⟨wb, hwb⟩ : ∃ wb, wb = w8.setCell ⟨w.heap.size + 1, 4, none⟩ (.slice A9 body.length c9) := ⟨_, rfl⟩
         have HMb := Aside0.mk (show wb.heap[w.heap.size + 1]? = some (.cells #[.bool p.null, .string (str p.loc), .string (str p.dom), .slice A3 ts.length c3, .slice A9 body.length c9, .bool false, .string { data := #[] }, .int .i64 0] 46 (0, 0)) by rw [hwb]; exact row8_4 _ HM8.out)
         have HRb := Aside0.mk (show wb.heap[w.heap.size]? = some (.cells #[.bool false, .string { data := #[] }, .string { data := #[] }, .slice none 0 0, .slice none 0 0, .bool false, .string { data := #[] }, .int .i64 0] 46 (0, 0)) by rw [hwb, Below.heap_setCell _ _ _ _ (show w.heap.size ≠ w.heap.size + 1 by omega)]; exact HR8.out)
         have HPb := Aside0.mk (show Ps w.heap.size wb (.slice A3 ts.length c3) ts by rw [hwb]; exact R_set HS8.out _ HM8.out pathE)
         have HOb := Aside0.mk (show Ow w.heap.size wb (.slice A9 body.length c9) body by rw [hwb]; exact R_set HO8.out _ HM8.out byteE)
         have HBb := Aside0.mk (show Below w.heap.size w wb by rw [hwb]; exact H8.out.setCell (Nat.le_succ _) _)
         rw [← hwb]
         refine bodyPost_ret (v := .tuple #[.agg #[.bool p.null, .string (str p.loc), .string (str p.dom), .slice A3 ts.length c3, .slice A9 body.length c9, .bool false, .string { data := #[] }, .int .i64 0], .int .i64 ((F + 2 + nx : Nat) : Int), .bool true]) ?_ rfl ⟨?_, ?_⟩
         ·exact results_ctt (by rfl) _ _ w.heap.size 46 _ (0, 0) _ rfl (row8_all HRb.out) Tryz.underlying46 rfl (by kernel_rfl) _ _ (by go_num) rfl
         ·rw [HYES.out]
          refine ⟨A3, c3, A9, c9, F + 2 + nx, rfl, by have := HQ2.out.1; have := HNX.out; omega, by rw [← List.drop_drop, HQ2.out.2], ?_⟩
          exact kMail_mkM (R_set8 HPb.out _ _ _ _ _ _ _ _ HRb.out pathE) (R_set8 HOb.out _ _ _ _ _ _ _ _ HRb.out byteE)
         ·exact below8 HBb.out (Nat.le_refl _)
       ·have hne : ((str line2).toList == [68, 65, 84, 65]) = false := by rw [eq_const _ _ _ rfl, lst_str]; exact decide_eq_false hd
        have HNO := Aside0.mk (show O = none by rw [HRT.out, if_neg hd]; rfl)
        go_wp2_with (fail)
        refine bodyPost_ret (v := .tuple #[.agg #[.bool p.null, .string (str p.loc), .string (str p.dom), .slice A3 ts.length c3, .slice none 0 0, .bool false, .string { data := #[] }, .int .i64 0], .int .i64 0, .bool false]) ?_ rfl ⟨(by rw [HNO.out]; exact no_post), ?_⟩
        ·exact results_ctt (by rfl) _ _ w.heap.size 46 _ (0, 0) _ rfl (row8_all HR7.out) Tryz.underlying46 rfl (by kernel_rfl) _ _ rfl rfl
        ·exact below8 H7.out (Nat.le_refl _)
end Go.Proofs.YtpfmnkpmidjfjaaGreatDoor
