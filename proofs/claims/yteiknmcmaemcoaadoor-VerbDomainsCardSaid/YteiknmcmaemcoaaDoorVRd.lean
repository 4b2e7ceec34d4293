/- The reference's Domain answers as path's, in plain Lean. -/
import Derived.Test.YteiknmcmaemcoaaDoorPd
import Derived.Test.YteiknmcmaemcoaaDoorVe
namespace Go.Proofs.YteiknmcmaemcoaaDoor
open Go.RowKit Go.Proofs.YteiknmcmaemcoaaDoorW.PrintWords Go.Proofs.YteiknmcmaemcoaaDoor.PVerbDomains
set_option linter.unusedVariables false
set_option linter.unusedSimpArgs false
theorem bt_lst (s : ByteArray) (i : Nat) : bt s (i : Int) = (((lst s).getD i 0).toNat : Int) := by
  unfold bt
  simp only [Int.toNat_natCast]
  by_cases h : i < s.size
  · rw [dif_pos h]
    have : (lst s)[i]? = some (s.data[i]'h) := by rw [lst, Array.getElem?_toList, Array.getElem?_eq_getElem h]
    rw [List.getD_eq_getElem?_getD, this]
    rfl
  · rw [dif_neg h, List.getD_eq_getElem?_getD, List.getElem?_eq_none (by rw [lst_length]; omega)]
    rfl
def isLet (c : UInt8) : Bool := decide (97 ≤ c ∧ c ≤ 122) || decide (65 ≤ c ∧ c ≤ 90)
def isDig (c : UInt8) : Bool := decide (48 ≤ c ∧ c ≤ 57)
theorem letter_f (c : UInt8) : wherryref11_letter.f (c.toNat : Int) = some (isLet c) := by
  have h : ∀ n : Nat, n < 256 → wherryref11_letter.f (n : Int) = some (isLet (UInt8.ofNat n)) := by decide +kernel
  have := h c.toNat c.toNat_lt
  simpa using this
theorem digit_f (c : UInt8) : wherryref11_digit.f (c.toNat : Int) = some (isDig c) := by
  have h : ∀ n : Nat, n < 256 → wherryref11_digit.f (n : Int) = some (isDig (UInt8.ofNat n)) := by decide +kernel
  have := h c.toNat c.toNat_lt
  simpa using this
theorem plain_let (c : UInt8) : V.isPlain c = (isLet c || isDig c) := by
  simp [V.isPlain, isLet, isDig]
def okL (c : UInt8) : Bool := V.isPlain c || c == 45
theorem eq45 (c : UInt8) : decide ((c.toNat : Int) = 45) = (c == 45) := by
  rw [Bool.eq_iff_iff]; simp; constructor
  · intro h; apply UInt8.toNat_inj.1; simpa using (by omega : c.toNat = 45)
  · rintro rfl; rfl
theorem eq46 (c : UInt8) : decide ((c.toNat : Int) = 46) = (c == 46) := by
  rw [Bool.eq_iff_iff]; simp; constructor
  · intro h; apply UInt8.toNat_inj.1; simpa using (by omega : c.toNat = 46)
  · rintro rfl; rfl
theorem splitOn_none (c : UInt8) : ∀ a : V.Bs, (∀ x ∈ a, x ≠ c) → V.splitOn c a = [a]
  | [], _ => rfl
  | x :: a, h => by
    unfold V.splitOn
    rw [if_neg (h x (by simp)), splitOn_none c a (fun y hy => h y (by simp [hy]))]
theorem splitOn_app (c : UInt8) (r : V.Bs) : ∀ a : V.Bs, (∀ x ∈ a, x ≠ c) → V.splitOn c (a ++ c :: r) = a :: V.splitOn c r
  | [], _ => by simp [V.splitOn]
  | x :: a, h => by
    rw [List.cons_append]
    rw [V.splitOn, if_neg (h x (by simp)), splitOn_app c r a (fun y hy => h y (by simp [hy]))]
/-- A sign that no label has spoils the piece that it stands in. -/
theorem splitOn_bad (p : UInt8 → Bool) (c y : UInt8) (r : V.Bs) (hy : p y = false) (hyc : y ≠ c) : ∀ a : V.Bs, (∀ x ∈ a, x ≠ c) → ∃ b t, V.splitOn c (a ++ y :: r) = b :: t ∧ b.all p = false
  | [], _ => by
    simp only [List.nil_append]
    unfold V.splitOn
    rw [if_neg hyc]
    cases h : V.splitOn c r with
    | nil => exact ⟨[y], [], rfl, by simp [hy]⟩
    | cons a t => exact ⟨y :: a, t, rfl, by simp [hy]⟩
  | x :: a, h => by
    obtain ⟨b, t, e, hb⟩ := splitOn_bad p c y r hy hyc a (fun z hz => h z (by simp [hz]))
    rw [List.cons_append, V.splitOn, if_neg (h x (by simp)), e]
    exact ⟨x :: b, t, rfl, by simp [hb]⟩
theorem okL_dot : okL 46 = false := by decide
theorem label_okL (l : V.Bs) : V.label l = (l.all okL && !l.isEmpty && decide (l.length ≤ 63) && l.head? != some 45 && l.getLast? != some 45) := rfl
theorem wrap_small (x : Int) (h0 : -1000 ≤ x) (h1 : x ≤ 1000) : wrap64 x = x := by unfold wrap64; omega
theorem in_f (a b c : Int) : wherryref11_in.f a b c = some (decide (b ≤ a ∧ a ≤ c)) := by
  unfold wherryref11_in.f
  split
  · rename_i h; simp; omega
  · rename_i h; simp; omega
theorem dom_seg (l : V.Bs) (fr i : Nat) (hf : fr ≤ i) (hi : i ≤ l.length) : l.drop fr = (l.drop fr).take (i - fr) ++ l.drop i := by
  have e : l.drop i = (l.drop fr).drop (i - fr) := by rw [List.drop_drop]; congr 1; omega
  rw [e, List.take_append_drop]
theorem seg_len (l : V.Bs) (fr i : Nat) (hf : fr ≤ i) (hi : i ≤ l.length) : ((l.drop fr).take (i - fr)).length = i - fr := by simp; omega
theorem seg_head (l : V.Bs) (fr i : Nat) (hf : fr < i) (hi : i ≤ l.length) : ((l.drop fr).take (i - fr)).head? = some (l.getD fr 0) := by
  rw [List.head?_eq_getElem?, List.getElem?_take, if_pos (by omega), List.getElem?_drop, List.getD_eq_getElem?_getD, Nat.add_zero, List.getElem?_eq_getElem (by omega)]
  rfl
theorem seg_last (l : V.Bs) (fr i : Nat) (hf : fr < i) (hi : i ≤ l.length) : ((l.drop fr).take (i - fr)).getLast? = some (l.getD (i - 1) 0) := by
  rw [List.getLast?_eq_getElem?, seg_len l fr i (by omega) hi, List.getElem?_take, if_pos (by omega), List.getElem?_drop, List.getD_eq_getElem?_getD, show fr + (i - fr - 1) = i - 1 by omega, List.getElem?_eq_getElem (by omega)]
  rfl
theorem seg_label (l : V.Bs) (fr i : Nat) (hf : fr ≤ i) (hi : i ≤ l.length) (hok : ∀ x ∈ (l.drop fr).take (i - fr), okL x = true) :
    V.label ((l.drop fr).take (i - fr)) = (decide (1 ≤ i - fr ∧ i - fr ≤ 63) && !(l.getD fr 0 == 45) && !(l.getD (i - 1) 0 == 45)) := by
  rw [label_okL, List.all_eq_true.2 hok, seg_len l fr i hf hi]
  by_cases h : fr < i
  · rw [seg_head l fr i h hi, seg_last l fr i h hi]
    have hne : ((l.drop fr).take (i - fr)).isEmpty = false := by
      have := seg_len l fr i hf hi
      cases e : (l.drop fr).take (i - fr) with
      | nil => rw [e] at this; simp at this; omega
      | cons a b => rfl
    rw [hne]
    have h1 : decide (1 ≤ i - fr ∧ i - fr ≤ 63) = decide (i - fr ≤ 63) := by
      rw [Bool.eq_iff_iff]; simp; omega
    rw [h1]
    simp [bne]
  · have e : i - fr = 0 := by omega
    rw [e]
    simp
set_option maxHeartbeats 1000000 in
/-- One piece's end. -/
theorem dom_end (s : ByteArray) (hs : s.size ≤ 300) (i fr k : Nat) (hi : i ≤ s.size) (hf : fr ≤ i) (hok : ∀ x ∈ ((lst s).drop fr).take (i - fr), okL x = true) (R : Option Bool)
    (hR : wherryref11_Domain.l0 k s ((i + 1 : Nat) : Int) ((i + 1 : Nat) : Int) = R) :
    wherryref11_Domain.j1 (k + 1) s (fr : Int) (i : Int) false = if V.label (((lst s).drop fr).take (i - fr)) = true then R else some false := by
  have hl : (lst s).length = s.size := lst_length s
  rw [seg_label (lst s) fr i hf (by omega) hok]
  unfold wherryref11_Domain.j1
  rw [if_neg (by decide), in_f, wrap_small _ (by omega) (by omega), wrap_small _ (by omega) (by omega)]
  simp only [Option.bind_some, decide_eq_true_eq]
  by_cases h1 : 1 ≤ i - fr ∧ i - fr ≤ 63
  · rw [if_pos (by omega), if_pos (by omega), if_pos (by omega), bt_lst]
    have e1 : ((i : Int) - 1) = ((i - 1 : Nat) : Int) := by omega
    have e2 := eq45 ((lst s).getD fr 0)
    have e3 := eq45 ((lst s).getD (i - 1) 0)
    have e4 : ((i : Int) + 1) = ((i + 1 : Nat) : Int) := by omega
    rw [decide_eq_true h1]
    by_cases h2 : (((lst s).getD fr 0).toNat : Int) = 45
    · rw [if_pos h2, ← e2, decide_eq_true h2]; rfl
    · rw [if_neg h2, ← e2, decide_eq_false h2]
      rw [e1, if_pos (by omega), if_pos (by omega), bt_lst, wrap_small _ (by omega) (by omega), e4, hR]
      by_cases h3 : (((lst s).getD (i - 1) 0).toNat : Int) = 45
      · rw [if_pos h3, ← e3, decide_eq_true h3]; rfl
      · rw [if_neg h3, ← e3, decide_eq_false h3]; rfl
  · rw [if_neg (by omega), decide_eq_false h1]; rfl
theorem no_dot {l : V.Bs} (h : ∀ x ∈ l, okL x = true) : ∀ x ∈ l, x ≠ 46 := by
  rintro x hx rfl
  have := h _ hx
  rw [okL_dot] at this
  cases this
set_option maxHeartbeats 1000000 in
theorem dom_loop (s : ByteArray) (hs : s.size ≤ 300) : ∀ (m i fr k : Nat), s.size - i = m → i ≤ s.size → fr ≤ i → (∀ x ∈ ((lst s).drop fr).take (i - fr), okL x = true) →
    wherryref11_Domain.l0 (3 * m + 5 + k) s (fr : Int) (i : Int) = some ((V.splitOn 46 ((lst s).drop fr)).all V.label) := by
  have hl : (lst s).length = s.size := lst_length s
  intro m
  induction m with
  | zero =>
    intro i fr k hm hi hf hok
    have hin : i = s.size := by omega
    rw [show 3 * 0 + 5 + k = (k + 3) + 1 + 1 by omega]
    unfold wherryref11_Domain.l0
    rw [if_pos (by omega), if_neg (by omega), dom_end s hs i fr (k + 3) hi hf hok (some true) (by unfold wherryref11_Domain.l0; rw [if_neg (by omega)])]
    have e : (lst s).drop fr = ((lst s).drop fr).take (i - fr) := by
      rw [List.take_of_length_le (by simp; omega)]
    have e2 := splitOn_none 46 _ (no_dot hok)
    rw [← e] at e2 ⊢
    rw [e2]
    simp only [List.all_cons, List.all_nil, Bool.and_true]
    cases V.label ((lst s).drop fr) <;> rfl
  | succ m ih =>
    intro i fr k hm hi hf hok
    have hlt : i < s.size := by omega
    rw [show 3 * (m + 1) + 5 + k = (3 * m + 5 + k) + 1 + 1 + 1 by omega]
    rw [wherryref11_Domain.l0]
    rw [if_pos (by omega), if_pos (by omega), if_pos (by omega), bt_lst]
    obtain ⟨c, hc⟩ : ∃ c, c = (lst s).getD i 0 := ⟨_, rfl⟩
    rw [← hc]
    have hd : (lst s).drop i = c :: (lst s).drop (i + 1) := by
      rw [List.drop_eq_getElem_cons (by omega), hc, List.getD_eq_getElem?_getD, List.getElem?_eq_getElem (by omega)]; rfl
    have hseg := dom_seg (lst s) fr i hf (by omega)
    rw [hd] at hseg
    by_cases h46 : c = 46
    · subst h46
      have e : (((46 : UInt8).toNat : Int) != 46) = false := by decide
      rw [e, dom_end s hs i fr (3 * m + 5 + k + 1) (by omega) hf hok (some ((V.splitOn 46 ((lst s).drop (i + 1))).all V.label)) (by
        rw [show 3 * m + 5 + k + 1 = 3 * m + 5 + (k + 1) by omega]
        exact ih (i + 1) (i + 1) (k + 1) (by omega) (by omega) (by omega) (by rw [Nat.sub_self]; simp))]
      rw [hseg, splitOn_app 46 _ _ (no_dot hok), ← hseg]
      simp only [List.all_cons]
      cases V.label (((lst s).drop fr).take (i - fr)) <;> rfl
    · have e : ((c.toNat : Int) != 46) = true := by
        have := eq46 c
        rw [show (c == 46) = false by simpa using h46] at this
        simp at this
        simpa using this
      rw [e, wherryref11_Domain.j1, if_pos rfl, if_pos (by omega), if_pos (by omega), bt_lst, ← hc, letter_f, digit_f]
      have hgo : okL c = true → wherryref11_Domain.j2 (3 * m + 5 + k + 1) s (fr : Int) (i : Int) false = some ((V.splitOn 46 ((lst s).drop fr)).all V.label) := by
        intro hok'
        rw [wherryref11_Domain.j2, if_neg (by decide), wrap_small _ (by omega) (by omega)]
        exact ih (i + 1) fr k (by omega) (by omega) (by omega) (by
          intro x hx
          have e3 : ((lst s).drop fr).take (i + 1 - fr) = ((lst s).drop fr).take (i - fr) ++ [c] := by
            rw [show i + 1 - fr = (i - fr) + 1 by omega, List.take_add_one, List.getElem?_drop, show fr + (i - fr) = i by omega, List.getElem?_eq_getElem (by omega)]
            simp only [Option.toList_some]
            rw [hc, List.getD_eq_getElem?_getD, List.getElem?_eq_getElem (by omega)]
            rfl
          rw [e3] at hx
          rcases List.mem_append.1 hx with hx | hx
          · exact hok x hx
          · simp at hx; rw [hx]; exact hok')
      simp only [Option.bind_some]
      by_cases h1 : isLet c = true
      · rw [if_pos h1]
        exact hgo (by unfold okL; rw [plain_let, h1]; rfl)
      · rw [if_neg h1]
        by_cases h2 : isDig c = true
        · rw [if_pos h2]
          exact hgo (by unfold okL; rw [plain_let, h2]; simp)
        · rw [if_neg h2]
          by_cases h3 : c = 45
          · have e4 : ((c.toNat : Int) != 45) = false := by rw [h3]; decide
            rw [e4]
            exact hgo (by rw [h3]; decide)
          · have e4 : ((c.toNat : Int) != 45) = true := by
              have := eq45 c
              rw [show (c == 45) = false by simpa using h3] at this
              simp at this
              simpa using this
            rw [e4, wherryref11_Domain.j2, if_pos rfl]
            have hbad : okL c = false := by
              unfold okL
              rw [plain_let]
              simp at h1 h2
              rw [h1, h2, show (c == 45) = false by simpa using h3]
              rfl
            obtain ⟨b, t, eb, hb⟩ := splitOn_bad okL 46 c ((lst s).drop (i + 1)) hbad h46 _ (no_dot hok)
            rw [hseg, eb]
            simp only [List.all_cons]
            rw [label_okL, hb]
            rfl
theorem ref_domain (s : ByteArray) (hs : s.size ≤ 300) : ∃ k, wherryref11_Domain.f k s = some (V.domain (lst s)) := by
  refine ⟨3 * s.size + 5, ?_⟩
  unfold wherryref11_Domain.f
  rw [in_f]
  simp only [Option.bind_some, decide_eq_true_eq]
  unfold V.domain V.parts
  rw [lst_length]
  have hk := dom_loop s hs s.size 0 0 0 (by omega) (by omega) (by omega) (by simp)
  rw [List.drop_zero] at hk
  by_cases h : s.size = 0
  · have : lst s = [] := List.eq_nil_of_length_eq_zero (by rw [lst_length]; exact h)
    rw [this, if_neg (by omega), show (V.splitOn 46 []).all V.label = false from by decide, Bool.and_false]
  · by_cases h2 : s.size ≤ 255
    · rw [if_pos (by omega), decide_eq_true h2]
      exact hk
    · rw [if_neg (by omega), decide_eq_false h2]; rfl
end Go.Proofs.YteiknmcmaemcoaaDoor
