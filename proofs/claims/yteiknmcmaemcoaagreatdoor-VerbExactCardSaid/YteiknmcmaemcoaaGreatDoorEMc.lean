/- Texts of this seat, one behind the other: the plain law, the walks. -/
import Derived.Test.YteiknmcmaemcoaaGreatDoorEXb
import Derived.Test.YteiknmcmaemcoaaGreatDoorProg
import Derived.WalkKit
import Derived.WalkLawsBesides
import Derived.Outline
import Derived.LoopTactic
import Derived.Lib.Hide
import Derived.Deep.QuietTactic
import Derived.BigQuiet
import Derived.Deep.LoopGhost
import Derived.Deep.DeepCutAuto
import Derived.Deep.CutBlock
import Derived.Deep.RegionHeld3
import Derived.Deep.RegionWith
import Derived.Deep.WholeRow
import Derived.Laws.Rows
import Derived.Laws.Tables
import Derived.Laws.ResultCell
import Derived.StillTailTactics
import Derived.Deep.DeepMust
import Derived.IntWalk
import Derived.KernelRfl
import Derived.Test.YteiknmcmaemcoaaGreatDoorEXa
import Derived.RegionTactic
import Derived.Laws.DeepStrings4
import Derived.Test.YteiknmcmaemcoaaGreatDoorEMa
import Derived.Test.YteiknmcmaemcoaaGreatDoorEMb
/- (ZD) The reference's number and param answer as the program's, in plain Lean. -/
namespace Go.Proofs.YteiknmcmaemcoaaGreatDoor
open Go.RowKit Go.Proofs.YteiknmcmaemcoaaGreatDoorW.PrintWords Go.Proofs.YteiknmcmaemcoaaGreatDoor.PVerbExact
set_option linter.unusedVariables false
set_option linter.unusedSimpArgs false
theorem isDig_nat (c : UInt8) : isDig c = true ↔ 48 ≤ c.toNat ∧ c.toNat ≤ 57 := by
  unfold isDig
  rw [decide_eq_true_eq, UInt8.le_iff_toNat_le, UInt8.le_iff_toNat_le]
  rfl
theorem decFrom_le : ∀ (l : V.Bs) (acc n : Nat), Lib.decFrom acc l = some n → acc ≤ n
  | [], acc, n, h => by
    unfold Lib.decFrom at h
    obtain rfl := Option.some.inj h
    exact Nat.le_refl _
  | x :: l, acc, n, h => by
    rw [Lib.decFrom] at h
    cases hd : Lib.digitVal x with
    | none => rw [hd] at h; cases h
    | some d =>
      rw [hd] at h
      have := decFrom_le l _ n h
      omega
theorem digitVal_of (c : UInt8) (h : isDig c = true) : Lib.digitVal c = some (c.toNat - 48) := by
  unfold Lib.digitVal
  rw [if_pos ((isDig_nat c).1 h)]
theorem decFrom_some : ∀ (l : V.Bs) (acc : Nat), l.all isDig = true → ∃ n, Lib.decFrom acc l = some n
  | [], acc, _ => ⟨acc, rfl⟩
  | x :: l, acc, h => by
    rw [List.all_cons, Bool.and_eq_true] at h
    rw [Lib.decFrom, digitVal_of x h.1]
    exact decFrom_some l _ h.2
/-- A numeral of few digits, without a nought ahead. -/
def numOk (l : V.Bs) : Bool := decide (1 ≤ l.length ∧ l.length ≤ 9) && (decide (l.length ≤ 1) || l.head? != some 48) && l.all isDig
theorem val_pos (x : UInt8) (l : V.Bs) (n : Nat) (hx : isDig x = true) (hne : x ≠ 48) (h : Lib.decFrom 0 (x :: l) = some n) : 1 ≤ n := by
  rw [Lib.decFrom, digitVal_of x hx] at h
  have h1 := decFrom_le l _ n h
  have h2 := (isDig_nat x).1 hx
  have h3 : x.toNat ≠ 48 := fun e => hne (UInt8.toNat_inj.1 e)
  omega
theorem digits_back : ∀ (m : Nat) (l : V.Bs) (n : Nat), l.length = m → l ≠ [] → (l.length ≤ 1 ∨ l.head? ≠ some 48) → l.all isDig = true → Lib.decFrom 0 l = some n → Lib.decDigits n = l
  | 0, l, n, hm, hne, _, _, _ => absurd (List.eq_nil_of_length_eq_zero hm) hne
  | m + 1, l, n, hm, hne, hh, hd, hv => by
    obtain ⟨l', b, rfl⟩ : ∃ l' b, l = l' ++ [b] := ⟨l.dropLast, l.getLast hne, (List.dropLast_concat_getLast hne).symm⟩
    rw [List.all_append, Bool.and_eq_true] at hd
    have hb : isDig b = true := by simpa using hd.2
    have hb2 := (isDig_nat b).1 hb
    have hbe : UInt8.ofNat (48 + (b.toNat - 48)) = b := by
      rw [show 48 + (b.toNat - 48) = b.toNat by omega, UInt8.ofNat_toNat]
    rw [decFrom_app, digitVal_of b hb] at hv
    obtain ⟨n', hn'⟩ := decFrom_some l' 0 hd.1
    rw [hn'] at hv
    have hv' : n' * 10 + (b.toNat - 48) = n := Option.some.inj hv
    by_cases hl : l' = []
    · subst hl
      have : n' = 0 := by
        unfold Lib.decFrom at hn'
        exact (Option.some.inj hn').symm
      subst this
      rw [Lib.decDigits, dif_pos (by omega), ← hv', Nat.zero_mul, Nat.zero_add, hbe]
      rfl
    · cases l' with
      | nil => exact absurd rfl hl
      | cons x t =>
        have hx : x ≠ 48 := by
          rcases hh with hh | hh
          · simp at hh
          · intro e; exact hh (by rw [e]; rfl)
        have hdx := hd.1
        rw [List.all_cons, Bool.and_eq_true] at hdx
        have hp := val_pos x t n' hdx.1 hx hn'
        have ih := digits_back m (x :: t) n' (by simp at hm ⊢; omega) (by simp) (Or.inr (by rw [List.head?_cons]; intro e; exact hx (Option.some.inj e))) hd.1 hn'
        rw [Lib.decDigits, dif_neg (by omega), show n / 10 = n' by omega, ih, show n % 10 = b.toNat - 48 by omega, hbe]
theorem digits_head (N : Nat) (h1 : 1 ≤ N) : (Lib.decDigits N).head? ≠ some 48 := by
  induction N using Nat.strongRecOn with
  | _ N ih =>
    rw [Lib.decDigits]
    split
    · rename_i h
      intro e
      have e2 : UInt8.ofNat (48 + N) = 48 := Option.some.inj e
      have : ∀ M : Nat, M < 10 → 1 ≤ M → UInt8.ofNat (48 + M) ≠ 48 := by decide
      exact this N h h1 e2
    · rename_i h
      have := ih (N / 10) (by omega) (by omega)
      cases hd : Lib.decDigits (N / 10) with
      | nil => exact absurd hd (digits_ne _)
      | cons x t =>
        rw [hd] at this
        exact this
theorem number_eq (l : V.Bs) : V.number l = numOk l := by
  rw [Bool.eq_iff_iff]
  constructor
  · intro h
    unfold V.number at h
    rcases num_cases (Lib.atoiAll l) with ⟨v, ha⟩ | ha | ha
    · rw [ha] at h
      simp only [Bool.and_eq_true, decide_eq_true_eq] at h
      obtain ⟨h0, h9, hi⟩ := h
      obtain ⟨N, rfl⟩ : ∃ N : Nat, v = N := ⟨v.toNat, by omega⟩
      rw [itoa_nat] at hi
      unfold numOk
      rw [Bool.and_eq_true, Bool.and_eq_true]
      refine ⟨⟨?_, ?_⟩, ?_⟩
      · rw [decide_eq_true_eq]
        refine ⟨?_, h9⟩
        rw [← hi]
        have := digits_ne N
        cases hd : Lib.decDigits N with
        | nil => exact absurd hd this
        | cons x t => simp
      · by_cases hN : 1 ≤ N
        · rw [Bool.or_eq_true]
          right
          rw [← hi]
          simpa [bne] using digits_head N hN
        · have : N = 0 := by omega
          subst this
          rw [Bool.or_eq_true]
          left
          rw [← hi]
          decide +kernel
      · rw [List.all_eq_true]
        intro c hc
        rw [← hi] at hc
        exact (isDig_nat c).2 (digits_all N c hc)
    · rw [ha] at h; cases h
    · rw [ha] at h; cases h
  · intro h
    unfold numOk at h
    rw [Bool.and_eq_true, Bool.and_eq_true, decide_eq_true_eq, Bool.or_eq_true, decide_eq_true_eq] at h
    obtain ⟨⟨⟨h1, h9⟩, hh⟩, hd⟩ := h
    have hne : l ≠ [] := by rintro rfl; simp at h1
    obtain ⟨n, hn⟩ := decFrom_some l 0 hd
    have hb := digits_back l.length l n rfl hne (by
      rcases hh with hh | hh
      · exact Or.inl hh
      · right
        intro e
        rw [e] at hh
        exact absurd hh (by decide)) hd hn
    unfold V.number
    rw [atoi_plain l (by omega) hne (fun c hc => (isDig_nat c).1 (List.all_eq_true.1 hd c hc)) n hn]
    simp only [itoa_nat]
    rw [hb]
    simp
    exact h9
theorem num_step (acc i : Nat) (c : UInt8) (hi : i ≤ 9) (ha : acc < 1000000000) (hc : 48 ≤ c.toNat ∧ c.toNat ≤ 57) : wrap64 (wrap64 (10 * (acc : Int)) + (((c.toNat : Int) - 48) % 256)) = ((10 * acc + (c.toNat - 48) : Nat) : Int) ∧ wrap64 ((i : Int) + 1) = ((i + 1 : Nat) : Int) := by
  have e1 : wrap64 (10 * (acc : Int)) = 10 * (acc : Int) := by unfold wrap64; omega
  have e2 : (((c.toNat : Int) - 48) % 256) = ((c.toNat - 48 : Nat) : Int) := by omega
  rw [e1, e2]
  constructor
  · unfold wrap64; omega
  · unfold wrap64; omega
theorem pow_le9 (i : Nat) (h : i ≤ 9) : 10 ^ i ≤ 1000000000 := Nat.pow_le_pow_right (n := 10) (by decide) h
theorem num_l0 (s : ByteArray) (hs : s.size ≤ 9) (m : Nat) : ∀ (i k acc : Nat), s.size - i = m → i ≤ s.size → m + 1 ≤ k → acc < 10 ^ i →
    ∃ v, wherryref11_number.l0 k s (acc : Int) (i : Int) = some v ∧ decide (0 ≤ v) = ((lst s).drop i).all isDig := by
  induction m with
  | zero =>
    intro i k acc hm hi hk ha
    obtain ⟨k, rfl⟩ : ∃ j, k = j + 1 := ⟨k - 1, by omega⟩
    rw [wherryref11_number.l0, if_neg (by omega), List.drop_of_length_le (by rw [lst_length]; omega)]
    exact ⟨_, rfl, by simp⟩
  | succ m ih =>
    intro i k acc hm hi hk ha
    obtain ⟨k, rfl⟩ : ∃ j, k = j + 1 := ⟨k - 1, by omega⟩
    have hlt : i < (lst s).length := by rw [lst_length]; omega
    have hp := pow_le9 i (by omega)
    rw [wherryref11_number.l0, if_pos (by omega), if_pos (by omega), bt_lst, digit_f, drop_getD _ _ hlt, List.all_cons]
    generalize (lst s).getD i 0 = c
    simp only [Option.bind_some]
    cases hd : isDig c with
    | false => exact ⟨-1, by rw [if_neg (by decide)], by rw [Bool.false_and]; decide⟩
    | true =>
      have hc := (isDig_nat c).1 hd
      have ha9 : acc < 1000000000 := Nat.lt_of_lt_of_le ha hp
      have ha10 : 10 * acc + (c.toNat - 48) < 10 ^ (i + 1) := by
        rw [Nat.pow_succ]
        generalize 10 ^ i = P at *
        omega
      clear hp ha
      obtain ⟨v, h1, h2⟩ := ih (i + 1) k (10 * acc + (c.toNat - 48)) (by omega) (by omega) (by omega) ha10
      clear ha10
      obtain ⟨e1, e2⟩ := num_step acc i c (by omega) ha9 hc
      exact ⟨v, by rw [if_pos rfl, e1, e2]; exact h1, by rw [h2, Bool.true_and]⟩
theorem ref_number (s : ByteArray) (hs : s.size ≤ 10000) (k : Nat) (hk : 12 ≤ k) : ∃ v, wherryref11_number.f k s 9 = some v ∧ decide (0 ≤ v) = V.number (lst s) := by
  obtain ⟨k, rfl⟩ : ∃ j, k = j + 1 := ⟨k - 1, by omega⟩
  rw [number_eq]
  have hl := lst_length s
  unfold wherryref11_number.f numOk
  rw [in_f, hl]
  show ∃ v, (if decide (1 ≤ (s.size : Int) ∧ (s.size : Int) ≤ 9) = true then _ else _) = some v ∧ _
  by_cases h1 : 1 ≤ s.size ∧ s.size ≤ 9
  · rw [if_pos (by simp; omega), decide_eq_true h1, Bool.true_and]
    have e0 := bt_lst s 0
    rw [show ((0 : Nat) : Int) = 0 from rfl] at e0
    obtain ⟨v, g1, g2⟩ := num_l0 s h1.2 s.size 0 k 0 (by omega) (by omega) (by omega) (by decide)
    rw [List.drop_zero] at g2
    rw [show ((0 : Nat) : Int) = 0 from rfl] at g1
    have hh : (lst s).head? = some ((lst s).getD 0 0) := by
      rw [List.head?_eq_getElem?, List.getD_eq_getElem?_getD, List.getElem?_eq_getElem (by omega)]; rfl
    by_cases h2 : s.size ≤ 1
    · rw [if_neg (by omega), wherryref11_number.j0, if_neg (by decide), decide_eq_true h2, Bool.true_or, Bool.true_and]
      exact ⟨v, g1, g2⟩
    · rw [if_pos (by omega), if_pos (by omega), e0, decide_eq_false h2, Bool.false_or, wherryref11_number.j0, hh]
      by_cases h3 : (lst s).getD 0 0 = 48
      · rw [if_pos (by simpa using (eqInt _ 48 48 rfl).2 h3), h3]
        exact ⟨-1, rfl, by simp⟩
      · rw [if_neg (by intro e; exact h3 ((eqInt _ 48 48 rfl).1 (by simpa using e)))]
        refine ⟨v, g1, ?_⟩
        rw [g2]
        have : (some ((lst s).getD 0 0) != some 48) = true := by simpa [bne] using h3
        rw [this, Bool.true_and]
  · rw [if_neg (by simp; omega), wherryref11_number.j0, if_pos rfl, decide_eq_false h1]
    exact ⟨-1, rfl, by simp⟩
/-- One parameter, for itself. -/
def V.prm (k : Int) (x : V.Bs) : Option Prm :=
  let c := V.eqs x
  let o := V.one c.1 keyWords
  let v := V.value k (o.getD []) c.2.1
  if c.2.2 && o.isSome && v.2 then some (o.getD [], v.1) else none
theorem pstep_prm (k : Int) (x : V.Bs) (acc : List Prm) : V.pstep k x acc = match V.prm k x with
    | none => none
    | some p => if acc.any (fun y => decide (y.1 = p.1)) then none else some (acc ++ [p]) := by
  unfold V.pstep V.prm
  simp only
  generalize V.eqs x = c
  generalize V.one c.1 keyWords = o
  generalize V.value k (o.getD []) c.2.1 = v
  cases c.2.2
  · rfl
  · cases o.isSome
    · rfl
    · cases v.2
      · rfl
      · simp only [Bool.true_and, Bool.and_true, if_true]
        cases acc.any (fun y => decide (y.1 = o.getD [])) <;> rfl
theorem after_cons (c y : UInt8) (r b : V.Bs) : V.after (c :: r) (y :: b) = if V.low c = V.low y then V.after r b else none := by
  unfold V.after V.fold
  simp only [List.length_cons, List.take_succ_cons, List.map_cons, List.drop_succ_cons, List.cons.injEq]
  by_cases h : V.low c = V.low y
  · rw [if_pos h]
    by_cases h2 : b.length ≤ r.length ∧ (r.take b.length).map V.low = b.map V.low
    · rw [if_pos h2, if_pos ⟨by omega, h, h2.2⟩]
    · rw [if_neg h2, if_neg (fun e => h2 ⟨by omega, e.2.2⟩)]
  · rw [if_neg h, if_neg (fun e => h e.2.1)]
theorem after_nil (c : UInt8) (b : V.Bs) : V.after [] (c :: b) = none := by
  unfold V.after
  rw [if_neg (fun e => by simp at e)]
theorem after_all (r : V.Bs) : V.after r [] = some r := by
  unfold V.after
  rw [if_pos ⟨Nat.zero_le _, rfl⟩]
  rfl
theorem low_61 (c : UInt8) : V.low c = 61 ↔ c = 61 := by
  have h' : ∀ n : Nat, n < 256 → (V.low (UInt8.ofNat n) = 61 ↔ UInt8.ofNat n = 61) := by decide +kernel
  have e := h' c.toNat c.toNat_lt
  rw [UInt8.ofNat_toNat] at e
  exact e
/-- What stands behind a key and its sign. -/
theorem after_key : ∀ (w x : V.Bs), V.fold w = w → 61 ∉ w → V.after x (w ++ [61]) = match V.cutAt 61 x with
    | some (a, b) => if V.fold a = w then some b else none
    | none => none
  | [], [], _, _ => by rw [List.nil_append, after_nil]; rfl
  | [], c :: r, _, _ => by
    rw [List.nil_append, after_cons, after_all]
    unfold V.cutAt
    by_cases h : c = 61
    · rw [if_pos h, if_pos (by rw [h])]
      rfl
    · rw [if_neg h, if_neg (fun e => h ((low_61 c).1 (e.trans (by decide))))]
      cases V.cutAt 61 r with
      | none => rfl
      | some p =>
        show none = if V.fold (c :: p.1) = [] then _ else _
        rw [if_neg (by unfold V.fold; simp)]
  | y :: w, [], _, _ => by rw [List.cons_append, after_nil]; rfl
  | y :: w, c :: r, hw, hn => by
    have hy : V.low y = y := by unfold V.fold at hw; exact (List.cons.inj hw).1
    have hw2 : V.fold w = w := by unfold V.fold at hw ⊢; exact (List.cons.inj hw).2
    have hy61 : y ≠ 61 := fun e => hn (by rw [e]; simp)
    have ih := after_key w r hw2 (fun e => hn (by simp [e]))
    rw [List.cons_append, after_cons, ih, hy]
    rw [V.cutAt]
    by_cases h : c = 61
    · rw [if_pos h, if_neg (by rw [h]; intro e; exact hy61 e.symm)]
      show none = if V.fold [] = y :: w then _ else _
      rw [if_neg (by unfold V.fold; simp)]
    · rw [if_neg h]
      cases hc : V.cutAt 61 r with
      | none => simp
      | some p =>
        show _ = if V.fold (c :: p.1) = y :: w then some p.2 else none
        have e : (V.fold (c :: p.1) = y :: w) ↔ (V.low c = y ∧ V.fold p.1 = w) := by
          unfold V.fold
          rw [List.map_cons, List.cons.injEq]
        by_cases h1 : V.low c = y
        · rw [if_pos h1]
          by_cases h2 : V.fold p.1 = w
          · rw [if_pos (e.2 ⟨h1, h2⟩)]
            show (if V.fold p.1 = w then _ else _) = _
            rw [if_pos h2]
          · rw [if_neg (fun x => h2 (e.1 x).2)]
            show (if V.fold p.1 = w then _ else _) = _
            rw [if_neg h2]
        · rw [if_neg h1, if_neg (fun x => h1 (e.1 x).1)]
def kSize : V.Bs := [115, 105, 122, 101]
def kRet : V.Bs := [114, 101, 116]
def kNotify : V.Bs := [110, 111, 116, 105, 102, 121]
theorem one_key (a : V.Bs) : V.one a keyWords = if V.fold a = kSize then some wSIZE else if V.fold a = kRet then some wRET else if V.fold a = kNotify then some wNOTIFY else none := by
  have e1 : V.fold wSIZE = kSize := by decide
  have e2 : V.fold wRET = kRet := by decide
  have e3 : V.fold wNOTIFY = kNotify := by decide
  unfold V.one keyWords
  simp only [V.find, e1, e2, e3]
  by_cases h1 : V.fold a = kSize
  · rw [if_pos h1, if_pos h1.symm]; rfl
  · rw [if_neg h1, if_neg (Ne.symm h1)]
    by_cases h2 : V.fold a = kRet
    · rw [if_pos h2, if_pos h2.symm]; rfl
    · rw [if_neg h2, if_neg (Ne.symm h2)]
      by_cases h3 : V.fold a = kNotify
      · rw [if_pos h3, if_pos h3.symm]; rfl
      · rw [if_neg h3, if_neg (Ne.symm h3)]; rfl
theorem one_two_eq (a w1 w2 : V.Bs) : V.one a [w1, w2] = if V.fold a = V.fold w1 then some w1 else if V.fold a = V.fold w2 then some w2 else none := by
  unfold V.one
  simp only [V.find]
  by_cases h1 : V.fold a = V.fold w1
  · rw [if_pos h1, if_pos h1.symm]; rfl
  · rw [if_neg h1, if_neg (Ne.symm h1)]
    by_cases h2 : V.fold a = V.fold w2
    · rw [if_pos h2, if_pos h2.symm]; rfl
    · rw [if_neg h2, if_neg (Ne.symm h2)]; rfl
/-- What param answers. -/
def prmRes (o : Option Prm) : ByteArray × ByteArray × Bool := match o with
  | some p => (str p.1, str p.2, true)
  | none => (⟨#[]⟩, ⟨#[]⟩, false)
theorem prm_none {k : Int} {x : V.Bs} (h : V.cutAt 61 x = none) : V.prm k x = none := by
  have hE : V.eqs x = (x, [], false) := by unfold V.eqs; rw [h]
  unfold V.prm
  simp [hE]
theorem prm_some {k : Int} {x a b : V.Bs} (h : V.cutAt 61 x = some (a, b)) : V.prm k x =
    if V.fold a = kSize then (if k = 2 then (if V.number b = true then some (wSIZE, b) else none) else none)
    else if V.fold a = kRet then (if k = 2 then (if V.fold b = [102, 117, 108, 108] then some (wRET, wFULL) else if V.fold b = [104, 100, 114, 115] then some (wRET, wHDRS) else none) else none)
    else if V.fold a = kNotify then (if k = 3 then (if V.fold b = [110, 101, 118, 101, 114] then some (wNOTIFY, wNEVER) else if V.fold b = [102, 97, 105, 108, 117, 114, 101] then some (wNOTIFY, wFAILURE) else none) else none)
    else none := by
  have hE : V.eqs x = (a, b, true) := by unfold V.eqs; rw [h]
  unfold V.prm
  simp only [hE, one_key]
  by_cases h1 : V.fold a = kSize
  · simp only [if_pos h1, Option.getD_some, Option.isSome_some, Bool.true_and]
    by_cases hk : k = 2
    · subst hk
      rw [value_size]
      simp
    · have : V.value k wSIZE b = ([], false) := by unfold V.value; simp [hk, wSIZE, wRET, wNOTIFY]
      rw [this, if_neg hk]
      rfl
  · simp only [if_neg h1]
    by_cases h2 : V.fold a = kRet
    · simp only [if_pos h2, Option.getD_some, Option.isSome_some, Bool.true_and]
      by_cases hk : k = 2
      · subst hk
        have : V.value 2 wRET b = ((V.one b [wFULL, wHDRS]).getD [], (V.one b [wFULL, wHDRS]).isSome) := by unfold V.value; simp [wSIZE, wRET]
        rw [this, one_two_eq, show V.fold wFULL = [102, 117, 108, 108] from by decide, show V.fold wHDRS = [104, 100, 114, 115] from by decide]
        rw [if_pos rfl]
        by_cases g1 : V.fold b = [102, 117, 108, 108]
        · rw [if_pos g1, if_pos g1]; rfl
        · rw [if_neg g1, if_neg g1]
          by_cases g2 : V.fold b = [104, 100, 114, 115]
          · rw [if_pos g2, if_pos g2]; rfl
          · rw [if_neg g2, if_neg g2]; rfl
      · have : V.value k wRET b = ([], false) := by unfold V.value; simp [hk, wSIZE, wRET, wNOTIFY]
        rw [this, if_neg hk]
        rfl
    · simp only [if_neg h2]
      by_cases h3 : V.fold a = kNotify
      · simp only [if_pos h3, Option.getD_some, Option.isSome_some, Bool.true_and]
        by_cases hk : k = 3
        · subst hk
          have : V.value 3 wNOTIFY b = ((V.one b [wNEVER, wFAILURE]).getD [], (V.one b [wNEVER, wFAILURE]).isSome) := by unfold V.value; simp [wSIZE, wRET, wNOTIFY]
          rw [this, one_two_eq, show V.fold wNEVER = [110, 101, 118, 101, 114] from by decide, show V.fold wFAILURE = [102, 97, 105, 108, 117, 114, 101] from by decide]
          rw [if_pos rfl]
          by_cases g1 : V.fold b = [110, 101, 118, 101, 114]
          · rw [if_pos g1, if_pos g1]; rfl
          · rw [if_neg g1, if_neg g1]
            by_cases g2 : V.fold b = [102, 97, 105, 108, 117, 114, 101]
            · rw [if_pos g2, if_pos g2]; rfl
            · rw [if_neg g2, if_neg g2]; rfl
        · have : V.value k wNOTIFY b = ([], false) := by unfold V.value; simp [hk, wSIZE, wRET, wNOTIFY]
          rw [this, if_neg hk]
          rfl
      · simp only [if_neg h3]
        rfl
theorem ref_param (s : ByteArray) (kd : Int) (hs : s.size ≤ 10000) (k : Nat) (hk : s.size + 20 ≤ k) : wherryref11_param.f k s kd = some (prmRes (V.prm kd (lst s))) := by
  obtain ⟨k, rfl⟩ : ∃ j, k = j + 5 := ⟨k - 5, by omega⟩
  have hb : ∀ (b : ByteArray) (w : V.Bs), lst b = w ++ [61] → V.fold w = w → 61 ∉ w → ∀ j, s.size + 10 ≤ j → wherryref11_begins.f j s b = some (begRes (match V.cutAt 61 (lst s) with
    | some (a, b) => if V.fold a = w then some b else none
    | none => none)) := by
    intro b w hw hf hn j hj
    rw [ref_begins s b hs (by rw [hw]; unfold V.fold at hf ⊢; rw [List.map_append, hf]; rfl) j (by omega), hw, after_key w (lst s) hf hn]
  have b1 := hb ⟨#[115, 105, 122, 101, 61]⟩ kSize rfl (by decide) (by decide)
  have b2 := hb ⟨#[114, 101, 116, 61]⟩ kRet rfl (by decide) (by decide)
  have b3 := hb ⟨#[110, 111, 116, 105, 102, 121, 61]⟩ kNotify rfl (by decide) (by decide)
  clear hb
  unfold wherryref11_param.f
  rw [b1 _ (by omega)]
  cases hc : V.cutAt 61 (lst s) with
  | none =>
    rw [hc] at b1 b2 b3
    rw [prm_none hc]
    simp only [begRes, Option.bind_some, Bool.false_eq_true, if_false] at b2 b3 ⊢
    rw [wherryref11_param.j0, if_neg (by decide), b2 _ (by omega)]
    simp only [Option.bind_some, Bool.false_eq_true, if_false]
    rw [wherryref11_param.j1, if_neg (by decide), b2 _ (by omega)]
    simp only [Option.bind_some, Bool.false_eq_true, if_false]
    rw [wherryref11_param.j2, if_neg (by decide), b3 _ (by omega)]
    simp only [Option.bind_some, Bool.false_eq_true, if_false]
    rw [wherryref11_param.j3, if_neg (by decide), b3 _ (by omega)]
    rfl
  | some ab =>
    obtain ⟨a, b⟩ := ab
    rw [hc] at b1 b2 b3
    rw [prm_some hc]
    obtain ⟨hx, _⟩ := V.cutAt_some hc
    have hlen := congrArg List.length hx
    rw [lst_length, List.length_append, List.length_cons] at hlen
    have hsr : kSize ≠ kRet := by decide
    have hsn : kSize ≠ kNotify := by decide
    have hrn : kRet ≠ kNotify := by decide
    have hfb : ∀ j, s.size + 10 ≤ j → wherryref11_Fold.f j (str b) = some (str (V.fold b)) := by
      intro j hj
      have := ref_fold (str b) (by rw [str_size]; omega) j (by rw [str_size]; omega)
      rwa [lst_str] at this
    simp only at b1 b2 b3 ⊢
    by_cases h1 : V.fold a = kSize
    · have n2 : V.fold a ≠ kRet := by rw [h1]; exact hsr
      have n3 : V.fold a ≠ kNotify := by rw [h1]; exact hsn
      rw [if_neg n2] at b2
      rw [if_neg n3] at b3
      rw [if_pos h1, if_pos h1]
      simp only [begRes, Option.bind_some, if_true] at b2 b3 ⊢
      have hrest : ∀ j, s.size + 14 ≤ j → wherryref11_param.j0 j s kd (str b) false = some (prmRes none) := by
        intro j hj
        obtain ⟨j, rfl⟩ : ∃ i, j = i + 4 := ⟨j - 4, by omega⟩
        rw [wherryref11_param.j0, if_neg (by decide), b2 _ (by omega)]
        simp only [Option.bind_some, Bool.false_eq_true, if_false]
        rw [wherryref11_param.j1, if_neg (by decide), b2 _ (by omega)]
        simp only [Option.bind_some, Bool.false_eq_true, if_false]
        rw [wherryref11_param.j2, if_neg (by decide), b3 _ (by omega)]
        simp only [Option.bind_some, Bool.false_eq_true, if_false]
        rw [wherryref11_param.j3, if_neg (by decide), b3 _ (by omega)]
        rfl
      by_cases hk2 : kd = 2
      · rw [if_pos hk2, if_pos hk2]
        obtain ⟨v, g1, g2⟩ := ref_number (str b) (by rw [str_size]; omega) (k + 5) (by omega)
        rw [lst_str] at g2
        rw [g1]
        simp only [Option.bind_some]
        rw [show decide (v ≥ 0) = V.number b from g2]
        cases hn : V.number b with
        | true =>
          rw [wherryref11_param.j0, if_pos rfl, if_pos rfl]
          rfl
        | false => rw [hrest _ (by omega), if_neg (by decide)]
      · rw [if_neg hk2, if_neg hk2, hrest _ (by omega)]
    · rw [if_neg h1] at b1 ⊢
      rw [if_neg h1]
      simp only [begRes, Option.bind_some, Bool.false_eq_true, if_false]
      by_cases h2 : V.fold a = kRet
      · have n3 : V.fold a ≠ kNotify := by rw [h2]; exact hrn
        rw [if_neg n3] at b3
        rw [if_pos h2] at b2 ⊢
        simp only [begRes, Option.bind_some] at b2 b3 ⊢
        have hrest : ∀ j, s.size + 14 ≤ j → wherryref11_param.j2 j s kd false = some (prmRes none) := by
          intro j hj
          obtain ⟨j, rfl⟩ : ∃ i, j = i + 2 := ⟨j - 2, by omega⟩
          rw [wherryref11_param.j2, if_neg (by decide), b3 _ (by omega)]
          simp only [Option.bind_some, Bool.false_eq_true, if_false]
          rw [wherryref11_param.j3, if_neg (by decide), b3 _ (by omega)]
          rfl
        rw [wherryref11_param.j0, if_neg (by decide), b2 _ (by omega)]
        simp only [Option.bind_some, if_true]
        by_cases hk2 : kd = 2
        · rw [if_pos hk2, if_pos hk2, hfb _ (by omega)]
          simp only [Option.bind_some]
          rw [toList_lst, lst_str, wherryref11_param.j1]
          by_cases g1 : V.fold b = [102, 117, 108, 108]
          · rw [if_pos (by simpa using g1), if_pos g1]
            rfl
          · rw [if_neg (by simpa using g1), if_neg g1, b2 _ (by omega)]
            simp only [Option.bind_some, if_true]
            rw [if_pos hk2, hfb _ (by omega)]
            simp only [Option.bind_some]
            rw [toList_lst, lst_str]
            by_cases g2 : V.fold b = [104, 100, 114, 115]
            · rw [wherryref11_param.j2, if_pos (by simpa using g2), if_pos g2]
              rfl
            · rw [show (V.fold b == ([104, 100, 114, 115] : List UInt8)) = false from by simpa using g2, hrest _ (by omega), if_neg g2]
        · rw [if_neg hk2, if_neg hk2, wherryref11_param.j1, if_neg (by decide), b2 _ (by omega)]
          simp only [Option.bind_some, if_true]
          rw [if_neg hk2, hrest _ (by omega)]
      · rw [if_neg h2] at b2 ⊢
        simp only [begRes, Option.bind_some] at b2 ⊢
        rw [wherryref11_param.j0, if_neg (by decide), b2 _ (by omega)]
        simp only [Option.bind_some, Bool.false_eq_true, if_false]
        rw [wherryref11_param.j1, if_neg (by decide), b2 _ (by omega)]
        simp only [Option.bind_some, Bool.false_eq_true, if_false]
        rw [wherryref11_param.j2, if_neg (by decide)]
        by_cases h3 : V.fold a = kNotify
        · rw [if_pos h3] at b3 ⊢
          simp only [begRes] at b3
          rw [b3 _ (by omega)]
          simp only [Option.bind_some, if_true]
          by_cases hk3 : kd = 3
          · rw [if_pos hk3, if_pos hk3, hfb _ (by omega)]
            simp only [Option.bind_some]
            rw [toList_lst, lst_str, wherryref11_param.j3]
            by_cases g1 : V.fold b = [110, 101, 118, 101, 114]
            · rw [if_pos (by simpa using g1), if_pos g1]
              rfl
            · rw [if_neg (by simpa using g1), if_neg g1, b3 _ (by omega)]
              simp only [Option.bind_some, if_true]
              rw [if_pos hk3, hfb _ (by omega)]
              simp only [Option.bind_some]
              rw [toList_lst, lst_str]
              by_cases g2 : V.fold b = [102, 97, 105, 108, 117, 114, 101]
              · rw [if_pos g2, if_pos g2]
                rfl
              · rw [if_neg g2, if_neg g2]
                rfl
          · rw [if_neg hk3, if_neg hk3, wherryref11_param.j3, if_neg (by decide), b3 _ (by omega)]
            simp only [Option.bind_some, if_true]
            rw [if_neg hk3]
            rfl
        · rw [if_neg h3] at b3 ⊢
          simp only [begRes] at b3
          rw [b3 _ (by omega)]
          simp only [Option.bind_some, Bool.false_eq_true, if_false]
          rw [wherryref11_param.j3, if_neg (by decide), b3 _ (by omega)]
          rfl
theorem mech_l0 (s : ByteArray) (hs : s.size ≤ 10000) : ∀ (m i k : Nat), s.size - i = m → i ≤ s.size → m + 1 ≤ k →
    wherryref11_mechanism.l0 k s (i : Int) = some (((lst s).drop i).all goodL && decide (0 < s.size))
  | m, i, 0, hm, hi, hk => by omega
  | 0, i, k + 1, hm, hi, hk => by
    unfold wherryref11_mechanism.l0
    rw [if_neg (by omega), List.drop_of_length_le (by rw [lst_length]; omega)]
    simp
  | m + 1, i, k + 1, hm, hi, hk => by
    have hlt : i < (lst s).length := by rw [lst_length]; omega
    have e : (lst s).drop i = (lst s).getD i 0 :: (lst s).drop (i + 1) := by
      rw [List.drop_eq_getElem_cons hlt, List.getD_eq_getElem?_getD, List.getElem?_eq_getElem hlt]; rfl
    have ih := mech_l0 s hs m (i + 1) k (by omega) (by omega) (by omega)
    rw [show ((i + 1 : Nat) : Int) = (i : Int) + 1 by omega] at ih
    unfold wherryref11_mechanism.l0
    rw [if_pos (by omega), if_pos (by omega), bt_lst, letter_f, digit_f, wrap_sm _ (by omega) (by omega), ih, e, List.all_cons]
    generalize (lst s).getD i 0 = c
    have hg : goodL c = (isLet c || (isDig c || decide (c = 45))) := by
      unfold goodL
      rw [plain_let, Bool.or_assoc]
      congr 1
    rw [hg]
    have h45 : ((c.toNat : Int) = 45) ↔ c = 45 := eqInt c 45 45 rfl
    simp only [Option.bind_some]
    cases isLet c
    · cases isDig c
      · by_cases hc : c = 45
        · simp [hc]
        · simp [hc, h45]
      · simp
    · simp
theorem ref_mech (s : ByteArray) (hs : s.size ≤ 10000) (k : Nat) (hk : s.size + 1 ≤ k) : wherryref11_mechanism.f k s = some ((lst s).all goodL && !(lst s).isEmpty) := by
  unfold wherryref11_mechanism.f
  have h := mech_l0 s hs s.size 0 k (by omega) (by omega) (by omega)
  rw [List.drop_zero] at h
  rw [lst_nil]
  have e : decide (0 < s.size) = !decide (s.size = 0) := by
    rcases Nat.eq_zero_or_pos s.size with h0 | h0
    · rw [decide_eq_false (by omega), decide_eq_true h0]; rfl
    · rw [decide_eq_true h0, decide_eq_false (by omega)]; rfl
  rw [e] at h
  exact h
end Go.Proofs.YteiknmcmaemcoaaGreatDoor
/- A line whose first four letters are turned is read alike, in plain Lean. -/
namespace Go.Proofs.YteiknmcmaemcoaaGreatDoor
set_option linter.unusedVariables false
set_option linter.unusedSimpArgs false
theorem low_flip (c : UInt8) (h : (decide (97 ≤ c ∧ c ≤ 122) || decide (65 ≤ c ∧ c ≤ 90)) = true) : V.low (c ^^^ 32) = V.low c := by
  have h' : ∀ n : Nat, n < 256 → (decide (97 ≤ UInt8.ofNat n ∧ UInt8.ofNat n ≤ 122) || decide (65 ≤ UInt8.ofNat n ∧ UInt8.ofNat n ≤ 90)) = true → V.low (UInt8.ofNat n ^^^ 32) = V.low (UInt8.ofNat n) := by decide +kernel
  have e := h' c.toNat c.toNat_lt
  rw [UInt8.ofNat_toNat] at e
  exact e h
theorem low_ok (c : UInt8) : okByte (V.low c) = okByte c := by
  have h' : ∀ n : Nat, n < 256 → okByte (V.low (UInt8.ofNat n)) = okByte (UInt8.ofNat n) := by decide +kernel
  have e := h' c.toNat c.toNat_lt
  rw [UInt8.ofNat_toNat] at e
  exact e
theorem low_32 (c : UInt8) : V.low c = 32 ↔ c = 32 := by
  have h' : ∀ n : Nat, n < 256 → (V.low (UInt8.ofNat n) = 32 ↔ UInt8.ofNat n = 32) := by decide +kernel
  have e := h' c.toNat c.toNat_lt
  rw [UInt8.ofNat_toNat] at e
  exact e
theorem fold_all (l : V.Bs) : (V.fold l).all okByte = l.all okByte := by
  unfold V.fold
  rw [List.all_map]
  congr 1
  funext c
  exact low_ok c
theorem fold_len (l : V.Bs) : (V.fold l).length = l.length := by unfold V.fold; rw [List.length_map]
theorem cut_fold : ∀ l : V.Bs, V.cutAt 32 (V.fold l) = (V.cutAt 32 l).map fun p => (V.fold p.1, V.fold p.2)
  | [] => rfl
  | x :: l => by
    show V.cutAt 32 (V.low x :: V.fold l) = _
    unfold V.cutAt
    by_cases hx : x = 32
    · rw [if_pos hx, if_pos ((low_32 x).2 hx)]; rfl
    · rw [if_neg hx, if_neg (fun h => hx ((low_32 x).1 h)), cut_fold l]
      cases V.cutAt 32 l with
      | none => rfl
      | some p => rfl
theorem first_fold (l : V.Bs) : V.fold (V.first l) = V.first (V.fold l) := by
  unfold V.first
  rw [cut_fold]
  cases V.cutAt 32 l with
  | none => rfl
  | some p => rfl
theorem after_same {l m : V.Bs} (hF : V.fold l = V.fold m) (hD : l.drop 4 = m.drop 4) (b : V.Bs) (hb : 4 ≤ b.length) : V.after l b = V.after m b := by
  have hl : l.length = m.length := by rw [← fold_len l, hF, fold_len]
  have ht : V.fold (l.take b.length) = V.fold (m.take b.length) := by
    unfold V.fold at hF ⊢
    rw [List.map_take, List.map_take, hF]
  have hd : l.drop b.length = m.drop b.length := by
    have e : ∀ x : V.Bs, x.drop b.length = (x.drop 4).drop (b.length - 4) := fun x => by rw [List.drop_drop]; congr 1; omega
    rw [e l, e m, hD]
  unfold V.after
  rw [hl, ht, hd]
theorem try_same {l m : V.Bs} (hF : V.fold l = V.fold m) (hD : l.drop 4 = m.drop 4) : ∀ T : List (V.Bs × Int × Bool), (∀ x ∈ T, 4 ≤ x.1.length) → V.tryT l T = V.tryT m T
  | [], _ => rfl
  | x :: T, h => by
    unfold V.tryT
    rw [after_same hF hD x.1 (h x (by simp)), try_same hF hD T (fun y hy => h y (by simp [hy]))]
theorem read_same {l m : V.Bs} (hF : V.fold l = V.fold m) (hD : l.drop 4 = m.drop 4) : V.read l = V.read m := by
  unfold V.read V.aloneB V.aloneK V.tail
  rw [hF, try_same hF hD readT (by decide), after_same hF hD noopB (by decide), after_same hF hD vrfyB (by decide)]
theorem parse_same {l m : V.Bs} (hF : V.fold l = V.fold m) (hD : l.drop 4 = m.drop 4) : V.parse l = V.parse m := by
  have hl : l.length = m.length := by rw [← fold_len l, hF, fold_len]
  have ha : l.all okByte = m.all okByte := by rw [← fold_all l, hF, fold_all]
  unfold V.parse V.known V.told V.strange
  rw [hl, ha, first_fold, first_fold, hF, read_same hF hD, after_same hF hD authB (by decide)]
theorem code_long (l : V.Bs) (h : 510 < l.length) : V.code l = 500 := by
  unfold V.code V.parse
  rw [if_pos h]
theorem code_bad (l : V.Bs) (h : l.length ≤ 510) (ha : l.all okByte = false) : V.code l = 500 := by
  unfold V.code V.parse
  rw [if_neg (by omega), if_neg (by rw [ha]; decide)]
theorem fold_set (l : V.Bs) (i : Nat) (c : UInt8) (hi : i < l.length) (h : V.low c = V.low (l.getD i 0)) : V.fold (l.set i c) = V.fold l := by
  unfold V.fold
  rw [List.map_set, h]
  apply List.ext_getElem?
  intro j
  by_cases hj : i = j
  · subst hj
    rw [List.getElem?_set_self (by simpa using hi), List.getElem?_map, List.getD_eq_getElem?_getD, List.getElem?_eq_getElem hi]
    rfl
  · rw [List.getElem?_set_ne hj]
theorem drop_set (l : V.Bs) (i n : Nat) (c : UInt8) (hi : i < n) : (l.set i c).drop n = l.drop n := List.drop_set_of_lt hi
end Go.Proofs.YteiknmcmaemcoaaGreatDoor
/- (ZD) What a line is by its first word; a mailbox by its sign; a command's line: in plain Lean, as the reference goes. -/
namespace Go.Proofs.YteiknmcmaemcoaaGreatDoor
set_option linter.unusedVariables false
set_option linter.unusedSimpArgs false
theorem after_app : ∀ (a l b : V.Bs), V.after (a ++ l) (a ++ b) = V.after l b
  | [], l, b => rfl
  | x :: a, l, b => by
    rw [List.cons_append, List.cons_append, after_cons, if_pos rfl]
    exact after_app a l b
/-- What stands behind a first word: none where the line is that word. -/
def V.tl (t : Option V.Bs) : V.Bs := match t with
  | none => []
  | some r => 32 :: r
def V.refN (k : Int) (t : Option V.Bs) : Option V.Cmd × Int := match t with
  | none => (none, 501)
  | some r => if V.domain r then (some ⟨k, r, V.noPath, []⟩, 0) else (none, 501)
def V.refA (k : Int) (t : Option V.Bs) : Option V.Cmd × Int := match t with
  | none => (some ⟨k, [], V.noPath, []⟩, 0)
  | some _ => (none, 501)
def V.refV (t : Option V.Bs) : Option V.Cmd × Int := match t with
  | none => (none, 501)
  | some r => if r = [] then (none, 501) else (some ⟨6, r, V.noPath, []⟩, 0)
def V.refU (t : Option V.Bs) : Option V.Cmd × Int := if V.fold (t.getD []) = [99, 114, 97, 109, 45, 109, 100, 53] then (some ⟨10, [], V.noPath, []⟩, 0) else if (t.getD []).all goodL && !(t.getD []).isEmpty then (none, 504) else (none, 501)
def V.refT (t : Option V.Bs) : Option V.Cmd × Int := match t with
  | none => (some ⟨11, [], V.noPath, []⟩, 0)
  | some r => if V.domain r then (some ⟨11, r, V.noPath, []⟩, 0) else (none, 501)
def wEhlo : V.Bs := [101, 104, 108, 111]
def wHelo : V.Bs := [104, 101, 108, 111]
def wMail : V.Bs := [109, 97, 105, 108]
def wRcpt : V.Bs := [114, 99, 112, 116]
def wData : V.Bs := [100, 97, 116, 97]
def wRset : V.Bs := [114, 115, 101, 116]
def wQuit : V.Bs := [113, 117, 105, 116]
def wNoop : V.Bs := [110, 111, 111, 112]
def wVrfy : V.Bs := [118, 114, 102, 121]
def wEtrn : V.Bs := [101, 116, 114, 110]
def wAuth : V.Bs := [97, 117, 116, 104]
def wAtrn : V.Bs := [97, 116, 114, 110]
def bFrom : V.Bs := [102, 114, 111, 109, 58]
def bTo : V.Bs := [116, 111, 58]
theorem words_eq : wordsL = [wEhlo, wHelo, wMail, wRcpt, wData, wRset, wQuit, wNoop, wVrfy, wEtrn, wAuth, wAtrn] := by decide +kernel
/-- What is answered where nothing is strange. -/
def V.ans (o : Option V.Cmd) : Option V.Cmd × Int := match o with
  | some c => (some c, 0)
  | none => (none, 501)
def V.orT (l : V.Bs) (o : Option (Option V.Cmd)) : Option V.Cmd := match o with
  | some c => c
  | none => V.tail l
def V.refM2 (k : Int) (o : Option V.Bs) : Option V.Cmd × Int := match o with
  | none => (none, 501)
  | some x => V.ans (V.mailbox k x)
def V.refM (k : Int) (b : V.Bs) (t : Option V.Bs) : Option V.Cmd × Int := match t with
  | none => (none, 501)
  | some r => V.refM2 k (V.after r b)
theorem told_of {l : V.Bs} {o : Option V.Cmd} (h1 : V.read l = o) (h2 : V.strange l = false) : V.told l = V.ans o := by
  unfold V.told V.ans
  rw [h1, h2]
  cases o <;> rfl
theorem read_of {l : V.Bs} {o : Option (Option V.Cmd)} (h1 : V.aloneB l = false) (h2 : V.tryT l readT = o) : V.read l = V.orT l o := by
  unfold V.read V.orT
  rw [h1, h2, if_neg (by decide)]
  cases o <;> rfl
theorem told_Ehlo : ∀ t, V.told (wEhlo ++ V.tl t) = V.refN 1 t
  | none => by decide +kernel
  | some r => by
    have e : wEhlo ++ V.tl (some r) = 101 :: 104 :: 108 :: 111 :: 32 :: r := rfl
    rw [e, told_of (o := V.namedO 1 r) (by rw [read_of (o := some (V.namedO 1 r)) (by simp [V.aloneB, aloneT, V.fold, V.low]) (by simp [V.tryT, readT, V.after, V.fold, V.low])]; rfl) (by simp [V.strange, V.after, authB, V.fold, V.low])]
    unfold V.namedO V.refN V.ans
    by_cases h : V.domain r = true
    · simp [h]
    · simp [h]
theorem told_Helo : ∀ t, V.told (wHelo ++ V.tl t) = V.refN 1 t
  | none => by decide +kernel
  | some r => by
    have e : wHelo ++ V.tl (some r) = 104 :: 101 :: 108 :: 111 :: 32 :: r := rfl
    rw [e, told_of (o := V.namedO 1 r) (by rw [read_of (o := some (V.namedO 1 r)) (by simp [V.aloneB, aloneT, V.fold, V.low]) (by simp [V.tryT, readT, V.after, V.fold, V.low])]; rfl) (by simp [V.strange, V.after, authB, V.fold, V.low])]
    unfold V.namedO V.refN V.ans
    by_cases h : V.domain r = true
    · simp [h]
    · simp [h]
theorem told_Etrn : ∀ t, V.told (wEtrn ++ V.tl t) = V.refN 9 t
  | none => by decide +kernel
  | some r => by
    have e : wEtrn ++ V.tl (some r) = 101 :: 116 :: 114 :: 110 :: 32 :: r := rfl
    rw [e, told_of (o := V.namedO 9 r) (by rw [read_of (o := some (V.namedO 9 r)) (by simp [V.aloneB, aloneT, V.fold, V.low]) (by simp [V.tryT, readT, V.after, V.fold, V.low])]; rfl) (by simp [V.strange, V.after, authB, V.fold, V.low])]
    unfold V.namedO V.refN V.ans
    by_cases h : V.domain r = true
    · simp [h]
    · simp [h]
theorem told_Atrn : ∀ t, V.told (wAtrn ++ V.tl t) = V.refT t
  | none => by decide +kernel
  | some r => by
    have e : wAtrn ++ V.tl (some r) = 97 :: 116 :: 114 :: 110 :: 32 :: r := rfl
    rw [e, told_of (o := V.namedO 11 r) (by rw [read_of (o := some (V.namedO 11 r)) (by simp [V.aloneB, aloneT, V.fold, V.low]) (by simp [V.tryT, readT, V.after, V.fold, V.low])]; rfl) (by simp [V.strange, V.after, authB, V.fold, V.low])]
    unfold V.namedO V.refT V.ans
    by_cases h : V.domain r = true
    · simp [h]
    · simp [h]
theorem told_Data : ∀ t, V.told (wData ++ V.tl t) = V.refA 4 t
  | none => by decide +kernel
  | some r => by
    have e : wData ++ V.tl (some r) = 100 :: 97 :: 116 :: 97 :: 32 :: r := rfl
    rw [e, told_of (o := none) (by rw [read_of (o := none) (by simp [V.aloneB, aloneT, V.fold, V.low]) (by simp [V.tryT, readT, V.after, V.fold, V.low])]; simp [V.orT, V.tail, V.after, noopB, vrfyB, V.fold, V.low]) (by simp [V.strange, V.after, authB, V.fold, V.low])]
    rfl
theorem told_Rset : ∀ t, V.told (wRset ++ V.tl t) = V.refA 5 t
  | none => by decide +kernel
  | some r => by
    have e : wRset ++ V.tl (some r) = 114 :: 115 :: 101 :: 116 :: 32 :: r := rfl
    rw [e, told_of (o := none) (by rw [read_of (o := none) (by simp [V.aloneB, aloneT, V.fold, V.low]) (by simp [V.tryT, readT, V.after, V.fold, V.low])]; simp [V.orT, V.tail, V.after, noopB, vrfyB, V.fold, V.low]) (by simp [V.strange, V.after, authB, V.fold, V.low])]
    rfl
theorem told_Quit : ∀ t, V.told (wQuit ++ V.tl t) = V.refA 8 t
  | none => by decide +kernel
  | some r => by
    have e : wQuit ++ V.tl (some r) = 113 :: 117 :: 105 :: 116 :: 32 :: r := rfl
    rw [e, told_of (o := none) (by rw [read_of (o := none) (by simp [V.aloneB, aloneT, V.fold, V.low]) (by simp [V.tryT, readT, V.after, V.fold, V.low])]; simp [V.orT, V.tail, V.after, noopB, vrfyB, V.fold, V.low]) (by simp [V.strange, V.after, authB, V.fold, V.low])]
    rfl
theorem told_Noop : ∀ t, V.told (wNoop ++ V.tl t) = (some ⟨7, [], V.noPath, []⟩, 0)
  | none => by decide +kernel
  | some r => by
    have e : wNoop ++ V.tl (some r) = 110 :: 111 :: 111 :: 112 :: 32 :: r := rfl
    rw [e, told_of (o := some ⟨7, [], V.noPath, []⟩) (by rw [read_of (o := none) (by simp [V.aloneB, aloneT, V.fold, V.low]) (by simp [V.tryT, readT, V.after, V.fold, V.low])]; simp [V.orT, V.tail, V.after, noopB, vrfyB, V.fold, V.low]) (by simp [V.strange, V.after, authB, V.fold, V.low])]
    rfl
theorem told_Vrfy : ∀ t, V.told (wVrfy ++ V.tl t) = V.refV t
  | none => by decide +kernel
  | some r => by
    have e : wVrfy ++ V.tl (some r) = 118 :: 114 :: 102 :: 121 :: 32 :: r := rfl
    rw [e, told_of (o := if r.isEmpty then none else some ⟨6, r, V.noPath, []⟩) (by rw [read_of (o := none) (by simp [V.aloneB, aloneT, V.fold, V.low]) (by simp [V.tryT, readT, V.after, V.fold, V.low])]; simp [V.orT, V.tail, V.after, noopB, vrfyB, V.fold, V.low]) (by simp [V.strange, V.after, authB, V.fold, V.low])]
    unfold V.refV
    cases r <;> rfl
theorem told_Mail : ∀ t, V.told (wMail ++ V.tl t) = V.refM 2 bFrom t
  | none => by decide +kernel
  | some r => by
    have e : wMail ++ V.tl (some r) = 109 :: 97 :: 105 :: 108 :: 32 :: r := rfl
    have ha : V.after (109 :: 97 :: 105 :: 108 :: 32 :: r) [109, 97, 105, 108, 32, 102, 114, 111, 109, 58] = V.after r bFrom := after_app (wMail ++ [32]) r bFrom
    have ht : V.tryT (109 :: 97 :: 105 :: 108 :: 32 :: r) readT = (V.after r bFrom).map fun x => V.mailbox 2 x := by
      have g0 : V.after (109 :: 97 :: 105 :: 108 :: 32 :: r) [101, 104, 108, 111, 32] = none := by simp [V.after, V.fold, V.low]
      have g1 : V.after (109 :: 97 :: 105 :: 108 :: 32 :: r) [104, 101, 108, 111, 32] = none := by simp [V.after, V.fold, V.low]
      have g2 : V.after (109 :: 97 :: 105 :: 108 :: 32 :: r) [114, 99, 112, 116, 32, 116, 111, 58] = none := by simp [V.after, V.fold, V.low]
      have g3 : V.after (109 :: 97 :: 105 :: 108 :: 32 :: r) [101, 116, 114, 110, 32] = none := by simp [V.after, V.fold, V.low]
      have g4 : V.after (109 :: 97 :: 105 :: 108 :: 32 :: r) [97, 116, 114, 110, 32] = none := by simp [V.after, V.fold, V.low]
      cases hr : V.after r bFrom with
      | none =>
        rw [hr] at ha
        simp only [readT, V.tryT, ha, g0, g1, g2, g3, g4, Option.map_none]
      | some x =>
        rw [hr] at ha
        simp only [readT, V.tryT, ha, g0, g1, g2, g3, g4, Option.map_some]
        rfl
    have hs : V.strange (109 :: 97 :: 105 :: 108 :: 32 :: r) = false := by simp [V.strange, V.after, authB, V.fold, V.low]
    have hal : V.aloneB (109 :: 97 :: 105 :: 108 :: 32 :: r) = false := by simp [V.aloneB, aloneT, V.fold, V.low]
    rw [e]
    unfold V.refM V.refM2
    simp only
    cases hr : V.after r bFrom with
    | none =>
      rw [hr] at ht
      rw [told_of (o := none) (by rw [read_of hal ht]; simp [V.orT, V.tail, V.after, noopB, vrfyB, V.fold, V.low]) hs]
      rfl
    | some x =>
      rw [hr] at ht
      rw [told_of (o := V.mailbox 2 x) (by rw [read_of hal ht]; rfl) hs]
theorem told_Rcpt : ∀ t, V.told (wRcpt ++ V.tl t) = V.refM 3 bTo t
  | none => by decide +kernel
  | some r => by
    have e : wRcpt ++ V.tl (some r) = 114 :: 99 :: 112 :: 116 :: 32 :: r := rfl
    have ha : V.after (114 :: 99 :: 112 :: 116 :: 32 :: r) [114, 99, 112, 116, 32, 116, 111, 58] = V.after r bTo := after_app (wRcpt ++ [32]) r bTo
    have ht : V.tryT (114 :: 99 :: 112 :: 116 :: 32 :: r) readT = (V.after r bTo).map fun x => V.mailbox 3 x := by
      have g0 : V.after (114 :: 99 :: 112 :: 116 :: 32 :: r) [101, 104, 108, 111, 32] = none := by simp [V.after, V.fold, V.low]
      have g1 : V.after (114 :: 99 :: 112 :: 116 :: 32 :: r) [104, 101, 108, 111, 32] = none := by simp [V.after, V.fold, V.low]
      have g2 : V.after (114 :: 99 :: 112 :: 116 :: 32 :: r) [109, 97, 105, 108, 32, 102, 114, 111, 109, 58] = none := by simp [V.after, V.fold, V.low]
      have g3 : V.after (114 :: 99 :: 112 :: 116 :: 32 :: r) [101, 116, 114, 110, 32] = none := by simp [V.after, V.fold, V.low]
      have g4 : V.after (114 :: 99 :: 112 :: 116 :: 32 :: r) [97, 116, 114, 110, 32] = none := by simp [V.after, V.fold, V.low]
      cases hr : V.after r bTo with
      | none =>
        rw [hr] at ha
        simp only [readT, V.tryT, ha, g0, g1, g2, g3, g4, Option.map_none]
      | some x =>
        rw [hr] at ha
        simp only [readT, V.tryT, ha, g0, g1, g2, g3, g4, Option.map_some]
        rfl
    have hs : V.strange (114 :: 99 :: 112 :: 116 :: 32 :: r) = false := by simp [V.strange, V.after, authB, V.fold, V.low]
    have hal : V.aloneB (114 :: 99 :: 112 :: 116 :: 32 :: r) = false := by simp [V.aloneB, aloneT, V.fold, V.low]
    rw [e]
    unfold V.refM V.refM2
    simp only
    cases hr : V.after r bTo with
    | none =>
      rw [hr] at ht
      rw [told_of (o := none) (by rw [read_of hal ht]; simp [V.orT, V.tail, V.after, noopB, vrfyB, V.fold, V.low]) hs]
      rfl
    | some x =>
      rw [hr] at ht
      rw [told_of (o := V.mailbox 3 x) (by rw [read_of hal ht]; rfl) hs]
theorem told_Auth : ∀ t, V.told (wAuth ++ V.tl t) = V.refU t
  | none => by decide +kernel
  | some r => by
    have e : wAuth ++ V.tl (some r) = 97 :: 117 :: 116 :: 104 :: 32 :: r := rfl
    have hf : V.fold (97 :: 117 :: 116 :: 104 :: 32 :: r) = 97 :: 117 :: 116 :: 104 :: 32 :: V.fold r := by simp [V.fold, V.low]
    have hs : V.strange (97 :: 117 :: 116 :: 104 :: 32 :: r) = (r.all goodL && !r.isEmpty) := by simp [V.strange, V.after, authB, V.fold, V.low]
    rw [e]
    unfold V.refU V.told
    rw [Option.getD_some]
    by_cases h : V.fold r = [99, 114, 97, 109, 45, 109, 100, 53]
    · rw [if_pos h]
      have h1 : V.read (97 :: 117 :: 116 :: 104 :: 32 :: r) = some ⟨10, [], V.noPath, []⟩ := by
        unfold V.read V.aloneB V.aloneK
        rw [hf, h]
        rfl
      rw [h1]
    · rw [if_neg h]
      have hal : V.aloneB (97 :: 117 :: 116 :: 104 :: 32 :: r) = false := by
        unfold V.aloneB
        rw [hf]
        simp [aloneT]
        intro e
        exact h e.symm
      have h1 : V.read (97 :: 117 :: 116 :: 104 :: 32 :: r) = none := by
        rw [read_of (o := none) hal (by simp [V.tryT, readT, V.after, V.fold, V.low])]
        simp [V.orT, V.tail, V.after, noopB, vrfyB, V.fold, V.low]
      rw [h1, hs]
      cases r.all goodL && !r.isEmpty <;> rfl
theorem told_same {l m : V.Bs} (hF : V.fold l = V.fold m) (hD : l.drop 4 = m.drop 4) : V.told l = V.told m := by
  unfold V.told V.strange
  rw [read_same hF hD, after_same hF hD authB (by decide)]
theorem word_len : ∀ w ∈ wordsL, w.length = 4 ∧ w.isEmpty = false ∧ V.fold w = w := by
  rw [words_eq]
  decide +kernel
/-- A line by its first word. -/
theorem parse_word {l : V.Bs} (hl : l.length ≤ 510) (ha : l.all okByte = true) (hm : V.fold (V.first l) ∈ wordsL) :
    ∃ t, V.parse l = V.told (V.fold (V.first l) ++ V.tl t) ∧ l.length = 4 + (V.tl t).length ∧ l.drop 5 = (V.tl t).drop 1 := by
  obtain ⟨hw4, hwe, hwf⟩ := word_len _ hm
  obtain ⟨w, hw⟩ : ∃ w, w = V.fold (V.first l) := ⟨_, rfl⟩
  rw [← hw] at hm hw4 hwe hwf ⊢
  have hp : V.parse l = V.told l := by
    unfold V.parse V.known
    rw [if_neg (by omega), if_pos ha, ← hw, hwe, decide_eq_true hm, if_neg (by decide)]
  unfold V.first at hw
  cases hc : V.cutAt 32 l with
  | none =>
    rw [hc] at hw
    have hll : l.length = 4 := by rw [← hw4, hw, fold_len]
    refine ⟨none, ?_, by rw [hll]; rfl, by rw [List.drop_of_length_le (by omega)]; rfl⟩
    rw [hp]
    refine told_same ?_ ?_
    · show V.fold l = V.fold (w ++ [])
      rw [List.append_nil, hwf, hw]
    · rw [List.drop_of_length_le (by omega), List.drop_of_length_le (by show (w ++ []).length ≤ 4; rw [List.append_nil, hw4]; exact Nat.le_refl _)]
  | some ab =>
    obtain ⟨a, b⟩ := ab
    rw [hc] at hw
    simp only at hw
    obtain ⟨hx, _⟩ := V.cutAt_some hc
    have hal : a.length = 4 := by rw [← hw4, hw, fold_len]
    refine ⟨some b, ?_, ?_, ?_⟩
    · rw [hp]
      refine told_same ?_ ?_
      · show V.fold l = V.fold (w ++ 32 :: b)
        rw [hx]
        unfold V.fold at hwf hw ⊢
        rw [List.map_append, List.map_append, hwf, hw]
      · show l.drop 4 = (w ++ 32 :: b).drop 4
        rw [hx, List.drop_append_of_le_length (by omega), List.drop_append_of_le_length (by omega), List.drop_of_length_le (by omega), List.drop_of_length_le (by omega)]
    · rw [hx, List.length_append, hal]
      rfl
    · rw [hx]
      have e : (5 : Nat) = a.length + 1 := by omega
      rw [e, ← List.drop_drop, List.drop_left]
      rfl
/-- A path's text ends with the only sign of its kind, and has no blank. -/
theorem pparse_ends {h : V.Bs} {p : V.Path} (hp : V.pparse h = some p) : ∃ u, h = u ++ [62] ∧ 62 ∉ u ∧ 32 ∉ h := by
  have ht := pparse_text hp
  unfold V.ptext at ht
  split at ht
  · rename_i hc
    split at ht
    · obtain rfl := Option.some.inj ht
      exact ⟨[60], rfl, by decide, by decide⟩
    · rename_i hn
      obtain rfl := Option.some.inj ht
      obtain ⟨h1, h2⟩ := check_parts hc (by simpa using hn)
      obtain ⟨_, a2, a3, a4⟩ := okT_not (loc_okT h1)
      obtain ⟨_, b2, b3, b4⟩ := okT_not (dom_okT h2)
      refine ⟨60 :: p.loc ++ 64 :: p.dom, by simp, ?_, ?_⟩
      · simp [a3, b3]
      · simp [a4, b4]
  · cases ht
/-- Parameters behind a mailbox. -/
def V.rparams (k : Int) (l : V.Bs) (acc : List Prm) : Option (List Prm) := if l = [] then some acc else if l.head? = some 32 then V.params k (V.splitOn 32 l.tail) acc else none
theorem split_head {l h : V.Bs} {ws : List V.Bs} (hs : V.splitOn 32 l = h :: ws) : ∃ rest, l = h ++ rest ∧ (rest = [] ∨ rest.head? = some 32) := by
  obtain ⟨h1, _, _⟩ := split_join 32 l h ws hs
  refine ⟨_, h1, ?_⟩
  cases ws with
  | nil => left; rfl
  | cons x t => right; rfl
theorem mailbox_none {k : Int} {l : V.Bs} (h : 62 ∉ l) : V.mailbox k l = none := by
  cases hs : V.splitOn 32 l with
  | nil => exact absurd hs (V.splitOn_ne 32 l)
  | cons a ws =>
    obtain ⟨rest, hr, _⟩ := split_head hs
    unfold V.mailbox
    rw [hs, List.headD_cons]
    cases hp : V.pparse a with
    | none => rfl
    | some p =>
      obtain ⟨u, hu, _, _⟩ := pparse_ends hp
      exact absurd (by rw [hr, hu]; simp) h
theorem mailbox_at {k : Int} (a b : V.Bs) (ha : 62 ∉ a) : V.mailbox k (a ++ 62 :: b) = V.mbox k (V.pparse (a ++ [62])) (V.rparams k b []) := by
  obtain ⟨l, hl⟩ : ∃ l, l = a ++ 62 :: b := ⟨_, rfl⟩
  rw [← hl]
  have hcut : V.cutAt 62 l = some (a, b) := by rw [hl]; exact cut_eq 62 a b ha
  have key : ∀ h ws p, V.splitOn 32 l = h :: ws → V.pparse h = some p → h = a ++ [62] ∧ (b = [] ∨ b.head? = some 32) := by
    intro h ws p hs hp
    obtain ⟨rest, hr, h3⟩ := split_head hs
    obtain ⟨u, hu, hn, _⟩ := pparse_ends hp
    have : V.cutAt 62 l = some (u, rest) := by
      rw [hr, hu, List.append_assoc]
      exact cut_eq 62 u rest hn
    rw [hcut] at this
    obtain ⟨rfl, rfl⟩ := Prod.mk.inj (Option.some.inj this)
    exact ⟨hu, h3⟩
  cases hp : V.pparse (a ++ [62]) with
  | none =>
    cases hs : V.splitOn 32 l with
    | nil => exact absurd hs (V.splitOn_ne 32 l)
    | cons h ws =>
      unfold V.mailbox
      rw [hs, List.headD_cons]
      cases hq : V.pparse h with
      | none => rfl
      | some q =>
        obtain ⟨h1, _⟩ := key h ws q hs hq
        rw [h1, hp] at hq
        cases hq
  | some p =>
    obtain ⟨u, hu, hn, h32⟩ := pparse_ends hp
    unfold V.rparams
    cases b with
    | nil =>
      have hs : V.splitOn 32 l = [a ++ [62]] := by rw [hl, V.splitOn_cut, V.cutAt_none.2 h32]
      unfold V.mailbox
      rw [hs, List.headD_cons, List.tail_cons, hp, if_pos rfl]
      rfl
    | cons c b =>
      rw [if_neg (by simp), List.head?_cons, List.tail_cons]
      by_cases hc : c = 32
      · subst hc
        rw [if_pos rfl]
        have hs : V.splitOn 32 l = (a ++ [62]) :: V.splitOn 32 b := by
          rw [hl, show a ++ 62 :: 32 :: b = (a ++ [62]) ++ 32 :: b by simp, V.splitOn_cut, cut_eq 32 _ _ h32]
        unfold V.mailbox
        rw [hs, List.headD_cons, List.tail_cons, hp]
      · rw [if_neg (by simpa using hc)]
        cases hs : V.splitOn 32 l with
        | nil => exact absurd hs (V.splitOn_ne 32 l)
        | cons h ws =>
          unfold V.mailbox
          rw [hs, List.headD_cons]
          cases hq : V.pparse h with
          | none => rfl
          | some q =>
            obtain ⟨_, h2⟩ := key h ws q hs hq
            rcases h2 with h2 | h2
            · cases h2
            · rw [List.head?_cons] at h2
              exact absurd (Option.some.inj h2) hc
/-- A command's line, as the reference writes it. -/
def V.rline (c : V.Cmd) : V.Bs :=
  if c.kind = 1 then lEHLO ++ c.text else
  if c.kind = 2 then lMAIL ++ V.rtext c.path ++ c.prms.flatMap V.prmB else
  if c.kind = 3 then lRCPT ++ V.rtext c.path ++ c.prms.flatMap V.prmB else
  if c.kind = 4 then lDATA else
  if c.kind = 5 then lRSET else
  if c.kind = 6 then lVRFY ++ c.text else
  if c.kind = 7 then lNOOP else
  if c.kind = 8 then lQUIT else
  if c.kind = 9 then lETRN ++ c.text else
  if c.kind = 10 then lAUTH else
  if c.kind = 11 then (if c.text = [] then lATRN else lATRN ++ 32 :: c.text) else
  c.prms.flatMap V.prmB
/-- A command that may be read from a line. -/
def Good (c : V.Cmd) : Prop := ((c.kind = 2 ∨ c.kind = 3) → V.check c.path = true) ∧ ((c.kind ≠ 2 ∧ c.kind ≠ 3) → c.prms = [])
theorem ptext_rtext {p : V.Path} (h : V.check p = true) : V.ptext p = some (V.rtext p) := by
  unfold V.ptext V.rtext
  rw [if_pos h]
  cases p.null <;> rfl
theorem line_rline {c : V.Cmd} (h : Good c) : V.line c = V.rline c := by
  unfold V.line V.lineB V.rline
  by_cases h2 : c.kind = 2
  · rw [h2, ptext_rtext (h.1 (Or.inl h2))]
    simp [V.lookT, lineT]
  · by_cases h3 : c.kind = 3
    · rw [h3, ptext_rtext (h.1 (Or.inr h3))]
      simp [V.lookT, lineT]
    · have hp := h.2 ⟨h2, h3⟩
      rw [hp]
      simp only [List.flatMap_nil, List.append_nil, if_neg h2, if_neg h3]
      by_cases h1 : c.kind = 1
      · rw [h1]; simp [V.lookT, lineT]
      by_cases h4 : c.kind = 4
      · rw [h4]; simp [V.lookT, lineT]
      by_cases h5 : c.kind = 5
      · rw [h5]; simp [V.lookT, lineT]
      by_cases h6 : c.kind = 6
      · rw [h6]; simp [V.lookT, lineT]
      by_cases h7 : c.kind = 7
      · rw [h7]; simp [V.lookT, lineT]
      by_cases h8 : c.kind = 8
      · rw [h8]; simp [V.lookT, lineT]
      by_cases h9 : c.kind = 9
      · rw [h9]; simp [V.lookT, lineT]
      by_cases h10 : c.kind = 10
      · rw [h10]; simp [V.lookT, lineT]
      by_cases h11 : c.kind = 11
      · rw [h11]
        by_cases ht : c.text = []
        · simp [V.lookT, lineT, ht]
        · simp [V.lookT, lineT, ht]
      · simp [V.lookT, lineT, h1, h2, h3, h4, h5, h6, h7, h8, h9, h10, h11, Ne.symm h1, Ne.symm h2, Ne.symm h3, Ne.symm h4, Ne.symm h5, Ne.symm h6, Ne.symm h7, Ne.symm h8, Ne.symm h9, Ne.symm h10, Ne.symm h11]
theorem parse_good {l : V.Bs} {c : V.Cmd} (h : (V.parse l).1 = some c) : Good c := by
  obtain ⟨hl, ha, hr⟩ := read_of_parse h
  unfold V.read at hr
  split at hr
  · rename_i hb
    obtain rfl := Option.some.inj hr
    unfold V.aloneB at hb
    obtain ⟨p, hp, he⟩ := List.any_eq_true.1 hb
    have e := of_decide_eq_true he
    refine ⟨fun hk => ?_, fun _ => rfl⟩
    have hk' : V.aloneK l = 2 ∨ V.aloneK l = 3 := hk
    unfold V.aloneK at hk'
    rw [← e] at hk'
    have : ∀ p ∈ aloneT, ¬ (V.look p.1 aloneT = 2 ∨ V.look p.1 aloneT = 3) := by decide +kernel
    exact absurd hk' (this p hp)
  · split at hr
    · rename_i o ho
      subst hr
      obtain ⟨x, hx, r, h1, h2⟩ := try_some ho
      have hk : ∀ x ∈ readT, (x.2.2 = true → x.2.1 = 2 ∨ x.2.1 = 3) ∧ (x.2.2 = false → x.2.1 ≠ 2 ∧ x.2.1 ≠ 3) := by decide +kernel
      obtain ⟨k1, k2⟩ := hk x hx
      split at h2
      · rename_i hm
        unfold V.mailbox at h2
        cases hp : V.pparse ((V.splitOn 32 r).headD []) with
        | none => rw [hp] at h2; cases h2
        | some p =>
          cases hw : V.params x.2.1 (V.splitOn 32 r).tail [] with
          | none => rw [hp, hw] at h2; cases h2
          | some ps =>
            rw [hp, hw] at h2
            unfold V.mbox at h2
            simp only at h2
            split at h2
            · cases h2
            · obtain rfl := Option.some.inj h2
              refine ⟨fun _ => ?_, fun hn => ?_⟩
              · have := pparse_text hp
                unfold V.ptext at this
                split at this
                · rename_i hc; exact hc
                · cases this
              · exact absurd (k1 hm) (fun e => by rcases e with e | e; exact hn.1 e; exact hn.2 e)
      · rename_i hm
        unfold V.namedO at h2
        split at h2
        · obtain rfl := Option.some.inj h2
          obtain ⟨g1, g2⟩ := k2 (by simpa using hm)
          exact ⟨fun e => by rcases e with e | e; exact absurd e g1; exact absurd e g2, fun _ => rfl⟩
        · cases h2
    · unfold V.tail at hr
      split at hr
      · obtain rfl := Option.some.inj hr
        exact ⟨fun e => (by rcases e with e | e <;> cases e), fun _ => rfl⟩
      · split at hr
        · split at hr
          · cases hr
          · obtain rfl := Option.some.inj hr
            exact ⟨fun e => (by rcases e with e | e <;> cases e), fun _ => rfl⟩
        · cases hr
theorem text_rline (c : V.Cmd) : V.text c = if (V.parse (V.rline c)).1 = some c then some (V.rline c) else none := by
  unfold V.text
  by_cases h1 : (V.parse (V.line c)).1 = some c
  · have e := line_rline (parse_good h1)
    rw [if_pos h1, ← e, if_pos h1]
  · rw [if_neg h1]
    by_cases h2 : (V.parse (V.rline c)).1 = some c
    · have e := line_rline (parse_good h2)
      rw [e] at h1
      exact absurd h2 h1
    · rw [if_neg h2]
end Go.Proofs.YteiknmcmaemcoaaGreatDoor
/- (ZD) The reference's Parse: the walk. -/
namespace Go.Proofs.YteiknmcmaemcoaaGreatDoor
open Go.RowKit Go.Lib
open Go.Proofs.YteiknmcmaemcoaaGreatDoorW.PrintWords Go.Proofs.YteiknmcmaemcoaaGreatDoorW.PrintLast Go.Proofs.YteiknmcmaemcoaaGreatDoorW.PrintMore
set_option linter.unusedVariables false
set_option linter.unusedSimpArgs false
def rpres (o : Option V.Path) : Value := .tuple #[pval (o.getD V.noPath), .bool o.isSome]
theorem rpath2_any (p : V.Path) (w : World) (h1 : p.loc.length ≤ 600) (h2 : p.dom.length ≤ 600) :
    Calls Tryz.prog 14 #[.agg #[.bool p.null, .string (str p.loc), .string (str p.dom)]] w fun e w' => e = .returned (.bool (V.check p)) ∧ Below w.heap.size w w' :=
  PVerbExact.wherryref11_Path.calls _ p.null (str p.loc) (str p.dom) (V.check p) w (ref_path p h1 h2 _ (Nat.le_refl _))
theorem rkeep_any (n b : Bool) (l d : ByteArray) (w : World) :
    Calls Tryz.prog 59 #[.agg #[.bool n, .string l, .string d], .bool b] w fun e w' => e = .returned (.tuple #[.agg #[.bool (if b then n else false), .string (if b then l else ⟨#[]⟩), .string (if b then d else ⟨#[]⟩)], .bool b]) ∧ Below w.heap.size w w' :=
  PVerbExact.wherryref11_keep.calls n l d b _ _ _ _ w (by unfold PVerbExact.wherryref11_keep.f; cases b <;> rfl)
theorem slice_mid (s : ByteArray) (i j : Nat) (hi : i ≤ j) (hj : j ≤ s.size) (X : ByteArray) (hX : X = str (((lst s).drop i).take (j - i))) (w : World) : (Instr.slice 9 (.string s) (some (.int .i64 (i : Int))) (some (.int .i64 (j : Int))) none).run Tryz.prog w = .ok (.string X) w := by
  rw [run_slice_string_if w 9 _ .i64 .i64 (i : Int) (j : Int) Tryz.underlying9, if_pos ⟨by omega, by omega⟩, if_pos ⟨by omega, by omega⟩]
  rw [show (i : Int).toNat = i by omega, show (j : Int).toNat = j by omega, ext_mid, hX]
set_option maxRecDepth 100000 in
set_option maxHeartbeats 4000000 in
theorem rparse_any (s : ByteArray) (w : World) (hs : s.size ≤ 600) :
    Calls Tryz.prog 47 #[.string s] w fun e w' => e = .returned (rpres (V.pparse (lst s))) ∧ Below w.heap.size w w' := by
  obtain ⟨T, hT⟩ : ∃ T, T = rpres (V.pparse (lst s)) := ⟨_, rfl⟩
  rw [← hT]
  have HT := Aside0.mk hT
  clear hT
  obtain ⟨w1, hw1⟩ : ∃ w1, w1 = w.alloc (.cells #[.bool false, .string { data := #[] }, .string { data := #[] }] 23) := ⟨_, rfl⟩
  have hb1 : Below w.heap.size w w1 := by rw [hw1]; exact (Below.refl _ w).alloc (Nat.le_refl _) _
  have hra : w1.heap[w.heap.size]? = some (.cells #[.bool false, .string { data := #[] }, .string { data := #[] }] 23 (0, 0)) := by rw [hw1]; exact heap_alloc_new _ _
  have hsb : w.heap.size < w1.heap.size := (Array.getElem?_eq_some_iff.1 hra).1
  have hrow : ∀ wx, Below w1.heap.size w1 wx → wx.heap[w.heap.size]? = some (.cells #[.bool false, .string { data := #[] }, .string { data := #[] }] 23 (0, 0)) := fun wx h => (h.block _ hsb).trans hra
  have HRA := Aside0.mk hra
  have HRO := Aside0.mk hrow
  have HB1 := Aside0.mk hb1
  have HSB := Aside0.mk hsb
  obtain ⟨a0, a1, a2, f0, f1, f2⟩ := cells3 hra
  have hl := lst_length s
  clear hra hrow hb1 hsb
  go_enter Tryz.func47, Tryz.ntmps47
  go_upto_region 1 with (fail)
  rw [← hw1]
  clear hw1
  by_cases hs0 : lst s = [60, 62]
  · have t0 : (s.toList == [60, 62]) = true := by rw [eq_const s _ [60, 62] rfl, decide_eq_true hs0]
    have HTF := Aside0.mk (show T = .tuple #[.agg #[.bool true, .string ⟨#[]⟩, .string ⟨#[]⟩], .bool true] by rw [HT.out, hs0]; rfl)
    clear hs0 hl
    go_wp2_with (fail)
    refine bodyPost_ret (v := T) ?_ rfl ⟨rfl, ?_⟩
    · rw [HTF.out]
      exact results_ct (by rfl) _ _ w.heap.size 23 _ (0, 0) _ rfl (row3 HRA.out) Tryz.underlying23 rfl (by kernel_rfl) _ rfl
    · exact ((HB1.out.setCell (Nat.le_refl _) _).setCell (Nat.le_refl _) _).setCell (Nat.le_refl _) _
  have t0 : (s.toList == [60, 62]) = false := by rw [eq_const s _ [60, 62] rfl, decide_eq_false hs0]
  have HN0 := Aside0.mk hs0
  clear hs0
  have hnone : V.pparse (lst s) = none → T = .tuple #[.agg #[.bool false, .string ⟨#[]⟩, .string ⟨#[]⟩], .bool false] := by
    intro h
    rw [HT.out, h]
    rfl
  have HNO := Aside0.mk hnone
  clear hnone
  by_cases h2 : s.size < 2
  · have hp : V.pparse (lst s) = none := by
      unfold V.pparse
      rw [if_neg HN0.out]
      rw [if_neg]
      rintro ⟨g1, g2⟩
      cases hls : lst s with
      | nil => rw [hls] at g1; cases g1
      | cons x t =>
        rw [hls] at g2 hl
        have : t = [] := List.eq_nil_of_length_eq_zero (by simp at hl; omega)
        rw [this] at g2
        cases g2
    have HTF := Aside0.mk (HNO.out hp)
    have t1 : decide ((s.size : Int) < 2) = true := by simp; omega
    have t2 : decide (s.size < 2) = true := by simp; omega
    clear hp hl
    go_wp2_with (fail)
    refine bodyPost_ret (v := T) ?_ rfl ⟨rfl, ?_⟩
    · rw [HTF.out]
      exact results_ct (by rfl) _ _ w.heap.size 23 _ (0, 0) _ rfl (row3 HRA.out) Tryz.underlying23 rfl (by kernel_rfl) _ rfl
    · exact ((HB1.out.setCell (Nat.le_refl _) _).setCell (Nat.le_refl _) _).setCell (Nat.le_refl _) _
  have t1 : decide ((s.size : Int) < 2) = false := by simp; omega
  have t2 : decide (s.size < 2) = false := by simp; omega
  have hh : (lst s).head? = some ((lst s).getD 0 0) := by
    rw [List.head?_eq_getElem?, List.getD_eq_getElem?_getD, List.getElem?_eq_getElem (by omega)]; rfl
  have hla := getLast_getD (lst s) (by omega)
  rw [hl] at hla
  have htl : (lst s).tail.getLast? = (lst s).getLast? := by
    cases hls : lst s with
    | nil => rfl
    | cons x t =>
      rw [hls] at hl
      cases t with
      | nil => simp at hl; omega
      | cons y t => rfl
  obtain ⟨c, hc⟩ : ∃ c, c = (lst s).getD 0 0 := ⟨_, rfl⟩
  obtain ⟨x, hx⟩ : ∃ x : Int, x = (c.toNat : Int) := ⟨_, rfl⟩
  have hix := fun w => index_str s 0 (by omega) c hc x hx w
  rw [show ((0 : Nat) : Int) = 0 from rfl] at hix
  obtain ⟨d, hd⟩ : ∃ c, c = (lst s).getD (s.size - 1) 0 := ⟨_, rfl⟩
  obtain ⟨y, hy⟩ : ∃ x : Int, x = (d.toNat : Int) := ⟨_, rfl⟩
  have hiy := fun w => index_str s (s.size - 1) (by omega) d hd y hy w
  rw [show ((s.size - 1 : Nat) : Int) = (s.size : Int) - 1 by omega] at hiy
  have hws : wrap64 ((s.size : Int) - 1) = (s.size : Int) - 1 := by unfold wrap64; omega
  rw [← hc] at hh
  rw [← hd] at hla
  have hpe : V.pparse (lst s) = if c = 60 ∧ d = 62 then (match V.cutAt 64 ((lst s).tail.dropLast) with | none => none | some (a, b) => if V.check ⟨false, a, b⟩ then some ⟨false, a, b⟩ else none) else none := by
    unfold V.pparse
    rw [if_neg HN0.out, hh, htl, hla]
    by_cases h : c = 60 ∧ d = 62
    · rw [if_pos h, if_pos ⟨by rw [h.1], by rw [h.2]⟩]
      rfl
    · rw [if_neg h, if_neg (fun e => h ⟨Option.some.inj e.1, Option.some.inj e.2⟩)]
  have HPE := Aside0.mk hpe
  have e60 : (x = 60) ↔ c = 60 := by rw [hx]; exact eqInt c 60 60 rfl
  have e62 : (y = 62) ↔ d = 62 := by rw [hy]; exact eqInt d 62 62 rfl
  clear hh hla htl hpe hc hx hd hy
  by_cases hc60 : c = 60
  · by_cases hd62 : d = 62
    · have hxv := e60.2 hc60
      have hyv := e62.2 hd62
      obtain ⟨I, hI⟩ : ∃ I, I = (lst s).tail.dropLast := ⟨_, rfl⟩
      obtain ⟨si, hsi⟩ : ∃ x, x = str I := ⟨_, rfl⟩
      have hIe : I = ((lst s).drop 1).take (s.size - 1 - 1) := by
        rw [hI, List.dropLast_eq_take, List.length_tail, hl, List.drop_one]
      have hIl : I.length = s.size - 2 := by rw [hI, List.length_dropLast, List.length_tail, hl]; omega
      have hsl := fun w => slice_mid s 1 (s.size - 1) (by omega) (by omega) si (by rw [hsi, hIe]) w
      rw [show ((s.size - 1 : Nat) : Int) = (s.size : Int) - 1 by omega, show ((1 : Nat) : Int) = 1 from rfl] at hsl
      have hsz : si.size = s.size - 2 := by rw [hsi, str_size, hIl]
      have hls : lst si = I := by rw [hsi, lst_str]
      have hpi : V.pparse (lst s) = match V.cutAt 64 I with | none => none | some (a, b) => if V.check ⟨false, a, b⟩ then some ⟨false, a, b⟩ else none := by
        rw [HPE.out, if_pos ⟨hc60, hd62⟩, ← hI]
      have HPI := Aside0.mk hpi
      have HLS := Aside0.mk hls
      have HSI := Aside0.mk hsi
      have hsz6 : si.size ≤ 600 := by omega
      have HSZ := Aside0.mk hsz6
      subst hxv hyv
      clear hI hIe hIl hls hpi hsi hsz e60 e62 hc60 hd62
      go_upto_region 6 with (fail)
      clear a0 a1 a2 f0 f1 f2
      go_wp2_with (fail)
      go_loopg [4] si.size (fun g v4 wr => ∃ n : Nat, n ≤ si.size ∧ g + n = si.size ∧ v4 = .int .i64 n ∧ wr = w1 ∧ Aside0 (∀ j, j < n → I.getD j 0 ≠ 64))
      case atStart => exact ⟨0, by omega, by omega, rfl, rfl, ⟨fun j hj => by omega⟩⟩
      case round =>
        obtain ⟨n, hn, hg, rfl, rfl, H⟩ := hrel
        obtain ⟨wx, rfl⟩ : ∃ wz : World, wz = wr := ⟨_, rfl⟩
        obtain ⟨a0, a1, a2, f0, f1, f2⟩ := cells3 HRA.out
        by_cases hlt : n < si.size
        · obtain ⟨c, hc⟩ : ∃ c, c = (lst si).getD n 0 := ⟨_, rfl⟩
          obtain ⟨x, hx⟩ : ∃ x : Int, x = (c.toNat : Int) := ⟨_, rfl⟩
          have hix := fun w => index_str si n hlt c hc x hx w
          have hlt' : (n : Int) < (si.size : Int) := by omega
          have h0 : (0 : Int) ≤ (n : Int) := by omega
          have e64 : (x = 64) ↔ c = 64 := by rw [hx]; exact eqInt c 64 64 rfl
          have hcI : c = I.getD n 0 := by rw [hc, HLS.out]
          have HCI := Aside0.mk hcI
          clear hc hx hcI
          by_cases hc64 : c = 64
          · have hxv := e64.2 hc64
            subst hxv
            have hcut : V.cutAt 64 I = some (I.take n, I.drop (n + 1)) := by
              refine cut_take 64 I n ?_ (by rw [← HCI.out]; exact hc64) H.out
              have e : I.length = si.size := by rw [← HLS.out, lst_length]
              omega
            have hIlen : I.length ≤ 600 := by
              have e : I.length = si.size := by rw [← HLS.out, lst_length]
              have := HSZ.out
              omega
            obtain ⟨X, hX⟩ : ∃ X, X = str (I.take n) := ⟨_, rfl⟩
            obtain ⟨Y, hY⟩ : ∃ Y, Y = str (I.drop (n + 1)) := ⟨_, rfl⟩
            have hto := fun w => slice_to si n (by omega) X (by rw [hX, HLS.out]) w
            have hfrom := fun w => slice_from si (n + 1) (by omega) Y (by rw [hY, HLS.out]) w
            have hwn : IntKind.i64.wrap ((n : Int) + 1) = ((n + 1 : Nat) : Int) := by
              have := HSZ.out
              simp [IntKind.wrap, IntKind.signed, IntKind.bits]
              omega
            rw [← hwn] at hfrom
            clear hwn
            obtain ⟨B, hB⟩ : ∃ B, B = V.check ⟨false, I.take n, I.drop (n + 1)⟩ := ⟨_, rfl⟩
            have hpth : ∀ w, Calls Tryz.prog 14 #[.agg #[.bool false, .string X, .string Y]] w fun e w' => e = .returned (.bool B) ∧ Below w.heap.size w w' := by
              intro w
              have h := rpath2_any ⟨false, I.take n, I.drop (n + 1)⟩ w (by show (I.take n).length ≤ 600; rw [List.length_take]; omega) (by show (I.drop (n + 1)).length ≤ 600; rw [List.length_drop]; omega)
              rw [hX, hY, hB]
              exact h
            have HPTH := Aside0.mk hpth
            have hkp := fun w => rkeep_any false B X Y w
            have hT2 : T = .tuple #[.agg #[.bool (if B then false else false), .string (if B then X else ⟨#[]⟩), .string (if B then Y else ⟨#[]⟩)], .bool B] := by
              rw [HT.out, HPI.out, hcut]
              show rpres (if V.check ⟨false, I.take n, I.drop (n + 1)⟩ = true then some ⟨false, I.take n, I.drop (n + 1)⟩ else none) = _
              rw [← hB, hX, hY]
              cases B <;> rfl
            obtain ⟨R1, hR1⟩ : ∃ R, R = (if B then false else false) := ⟨_, rfl⟩
            obtain ⟨R2, hR2⟩ : ∃ R : ByteArray, R = (if B then X else ⟨#[]⟩) := ⟨_, rfl⟩
            obtain ⟨R3, hR3⟩ : ∃ R : ByteArray, R = (if B then Y else ⟨#[]⟩) := ⟨_, rfl⟩
            rw [← hR1, ← hR2, ← hR3] at hT2
            simp only [← hR1, ← hR2, ← hR3] at hkp
            have HKP := Aside0.mk hkp
            have HT2 := Aside0.mk hT2
            clear hX hY hB hpth hT2 hcut hIlen hc64 e64 hkp hR1 hR2 hR3
            go_upto_region 10 with (fail)
            go_region_with (fail)
            all_goals go_wp2_with (fail)
            obtain ⟨w2, hw2⟩ : ∃ w2, w2 = (wx.alloc (.cells #[.bool false, .string X, .string Y] 23)).drew := ⟨_, rfl⟩
            rw [← hw2]
            have hb2 : Below wx.heap.size wx w2 := by rw [hw2]; exact ((Below.refl _ wx).alloc (Nat.le_refl _) _).drew
            have hr5 : w2.heap[wx.heap.size]? = some (.cells #[.bool false, .string X, .string Y] 23 (0, 0)) := by rw [hw2]; exact heap_alloc_new wx _
            have hs5 : wx.heap.size < w2.heap.size := (Array.getElem?_eq_some_iff.1 hr5).1
            have hrow5 : ∀ wy, Below w2.heap.size w2 wy → wy.heap[wx.heap.size]? = some (.cells #[.bool false, .string X, .string Y] 23 (0, 0)) := fun wy h => (h.block _ hs5).trans hr5
            obtain ⟨G5, hG5⟩ : ∃ G, G = wx.heap.size := ⟨_, rfl⟩
            rw [← hG5] at hr5 hrow5 ⊢
            have HRO5 := Aside0.mk hrow5
            have HB2 := Aside0.mk hb2
            have hdr : Below w2.heap.size w2 w2.drew := (Below.refl _ w2).drew
            have HDR := Aside0.mk hdr
            clear hdr
            clear a0 a1 a2 f0 f1 f2
            obtain ⟨a0, a1, a2, f0, f1, f2⟩ := cells3 (HRO.out w2 hb2)
            obtain ⟨b0, b1, b2, g0, g1, g2⟩ := cells3 hr5
            clear hw2 hr5 hs5 hrow5 hG5 hb2 hto hfrom hix
            go_region_with (first | (go_at_call 14; (with_reducible refine Calls.mono (HPTH.out _) ?_); rintro e w3 ⟨rfl, h⟩; have H3 := Aside0.mk (HDR.out.trans (h.mono HDR.out.size)); clear h a0 a1 a2 f0 f1 f2 b0 b1 b2 g0 g1 g2; obtain ⟨a0, a1, a2, f0, f1, f2⟩ := cells3 (HRO.out w3 (HB2.out.trans (H3.out.mono HB2.out.size))); obtain ⟨b0, b1, b2, g0, g1, g2⟩ := cells3 (HRO5.out w3 H3.out)) | (go_at_call 59; (with_reducible refine Calls.mono (HKP.out _) ?_); rintro e w4 ⟨rfl, h⟩; have H4 := Aside0.mk (H3.out.trans (h.mono H3.out.size)); clear h a0 a1 a2 f0 f1 f2 b0 b1 b2 g0 g1 g2; obtain ⟨a0, a1, a2, f0, f1, f2⟩ := cells3 (HRO.out w4 (HB2.out.trans (H4.out.mono HB2.out.size)))))
            all_goals
              go_wp2_with (fail)
              refine bodyPost_ret (v := T) ?_ rfl ⟨rfl, ?_⟩
              · rw [HT2.out]
                exact results_ct (by rfl) _ _ w.heap.size 23 _ (0, 0) _ rfl (row3 (HRO.out w4 (HB2.out.trans (H4.out.mono HB2.out.size)))) Tryz.underlying23 rfl (by kernel_rfl) _ rfl
              · exact (((HB1.out.trans ((HB2.out.trans (H4.out.mono HB2.out.size)).mono HB1.out.size)).setCell (Nat.le_refl _) _).setCell (Nat.le_refl _) _).setCell (Nat.le_refl _) _
          · have hxv : (x == 64) = false := by rw [beq_eq_false_iff_ne]; exact fun e => hc64 (e64.1 e)
            have hxd : decide (x = 64) = false := by rw [decide_eq_false_iff_not]; exact fun e => hc64 (e64.1 e)
            have HC64 := Aside0.mk hc64
            clear e64 hc64
            go_wp2_with (fail)
            go_roundg (gk - 1)
            case measure => omega
            case rel =>
              refine ⟨n + 1, by omega, by omega, by go_num, rfl, ⟨fun j hj => ?_⟩⟩
              by_cases hjn : j = n
              · rw [hjn, ← HCI.out]; exact HC64.out
              · exact H.out j (by omega)
        · have hne : n = si.size := by omega
          subst hne
          have hp : V.pparse (lst s) = none := by
            rw [HPI.out, cut_no 64 I (fun j hj => H.out j (by rw [← lst_length, HLS.out]; exact hj))]
          have HTF := Aside0.mk (HNO.out hp)
          have t3 : decide ((si.size : Int) < (si.size : Int)) = false := by simp
          clear hp hlt hg hn
          go_wp2_with (fail)
          refine bodyPost_ret (v := T) ?_ rfl ⟨rfl, ?_⟩
          · rw [HTF.out]
            exact results_ct (by rfl) _ _ w.heap.size 23 _ (0, 0) _ rfl (row3 HRA.out) Tryz.underlying23 rfl (by kernel_rfl) _ rfl
          · exact ((HB1.out.setCell (Nat.le_refl _) _).setCell (Nat.le_refl _) _).setCell (Nat.le_refl _) _
    · have hp : V.pparse (lst s) = none := by rw [HPE.out, if_neg (fun e => hd62 e.2)]
      have HTF := Aside0.mk (HNO.out hp)
      have hyv : (y != 62) = true := by rw [bne_iff_ne]; exact fun e => hd62 (e62.1 e)
      have hxv := e60.2 hc60
      subst hxv
      clear hp e60 e62 hl
      go_wp2_with (fail)
      refine bodyPost_ret (v := T) ?_ rfl ⟨rfl, ?_⟩
      · rw [HTF.out]
        exact results_ct (by rfl) _ _ w.heap.size 23 _ (0, 0) _ rfl (row3 HRA.out) Tryz.underlying23 rfl (by kernel_rfl) _ rfl
      · exact ((HB1.out.setCell (Nat.le_refl _) _).setCell (Nat.le_refl _) _).setCell (Nat.le_refl _) _
  · have hp : V.pparse (lst s) = none := by rw [HPE.out, if_neg (fun e => hc60 e.1)]
    have HTF := Aside0.mk (HNO.out hp)
    have hxv : (x != 60) = true := by rw [bne_iff_ne]; exact fun e => hc60 (e60.1 e)
    clear hp e60 e62 hl
    go_wp2_with (fail)
    refine bodyPost_ret (v := T) ?_ rfl ⟨rfl, ?_⟩
    · rw [HTF.out]
      exact results_ct (by rfl) _ _ w.heap.size 23 _ (0, 0) _ rfl (row3 HRA.out) Tryz.underlying23 rfl (by kernel_rfl) _ rfl
    · exact ((HB1.out.setCell (Nat.le_refl _) _).setCell (Nat.le_refl _) _).setCell (Nat.le_refl _) _
end Go.Proofs.YteiknmcmaemcoaaGreatDoor
/- (ZD) The reference's params: the walk. -/
namespace Go.Proofs.YteiknmcmaemcoaaGreatDoor
open Go.RowKit Go.Lib
open Go.Proofs.YteiknmcmaemcoaaGreatDoorW.PrintWords Go.Proofs.YteiknmcmaemcoaaGreatDoorW.PrintLast Go.Proofs.YteiknmcmaemcoaaGreatDoorW.PrintMore
set_option linter.unusedVariables false
set_option linter.unusedSimpArgs false
theorem rparam_any (k : Int) (s : ByteArray) (w : World) (hs : s.size ≤ 10000) :
    Calls Tryz.prog 60 #[.string s, .int .i64 k] w fun e w' => e = .returned (.tuple #[.agg #[.string (prmRes (V.prm k (lst s))).1, .string (prmRes (V.prm k (lst s))).2.1], .bool (prmRes (V.prm k (lst s))).2.2]) ∧ Below w.heap.size w w' :=
  PVerbExact.wherryref11_param.calls _ s k _ _ _ w (ref_param s k hs _ (Nat.le_refl _))
theorem rparams_nil (k : Int) (xs : List Prm) : V.rparams k [] xs = some xs := rfl
theorem rparams_bad (k : Int) (c : UInt8) (r : V.Bs) (xs : List Prm) (h : c ≠ 32) : V.rparams k (c :: r) xs = none := by
  unfold V.rparams
  rw [if_neg (by simp), List.head?_cons, if_neg (fun e => h (Option.some.inj e))]
theorem rparams_step (k : Int) (r : V.Bs) (n : Nat) (xs : List Prm) (hn : n ≤ r.length) (h1 : ∀ j, j < n → r.getD j 0 ≠ 32) (h2 : n = r.length ∨ r.getD n 0 = 32) :
    V.rparams k (32 :: r) xs = match V.pstep k (r.take n) xs with | none => none | some xs' => V.rparams k (r.drop n) xs' := by
  have e0 : V.rparams k (32 :: r) xs = V.params k (V.splitOn 32 r) xs := by
    unfold V.rparams
    rw [if_neg (by simp), List.head?_cons, if_pos rfl, List.tail_cons]
  rw [e0, V.splitOn_cut]
  by_cases hl : n = r.length
  · subst hl
    rw [cut_no 32 r h1, List.take_length, List.drop_length]
    simp only [V.params, rparams_nil]
    cases V.pstep k r xs <;> rfl
  · have hlt : n < r.length := by omega
    have h3 : r.getD n 0 = 32 := by
      rcases h2 with h2 | h2
      · exact absurd h2 hl
      · exact h2
    rw [cut_take 32 r n hlt h3 h1]
    simp only [V.params]
    have e : r.drop n = 32 :: r.drop (n + 1) := by rw [drop_getD r n hlt, h3]
    rw [e]
    cases V.pstep k (r.take n) xs with
    | none => rfl
    | some xs' =>
      show V.params k (V.splitOn 32 (r.drop (n + 1))) xs' = V.rparams k (32 :: r.drop (n + 1)) xs'
      unfold V.rparams
      rw [if_neg (by simp), List.head?_cons, if_pos rfl, List.tail_cons]
theorem any_take (xs : List Prm) (a : V.Bs) (n : Nat) (h : n < xs.length) (x : Prm) (hx : x = xs.getD n ([], [])) : (xs.take (n + 1)).any (fun y => decide (y.1 = a)) = ((xs.take n).any (fun y => decide (y.1 = a)) || decide (x.1 = a)) := by
  have e : xs.take (n + 1) = xs.take n ++ [x] := by
    rw [List.take_succ_eq_append_getElem h, hx]; simp [List.getD_eq_getElem?_getD, h]
  rw [e, List.any_append]
  simp
theorem any_mem (xs : List Prm) (a : V.Bs) (n : Nat) (h : n < xs.length) (x : Prm) (hx : x = xs.getD n ([], [])) (he : x.1 = a) : xs.any (fun y => decide (y.1 = a)) = true := by
  rw [List.any_eq_true]
  refine ⟨x, ?_, decide_eq_true he⟩
  rw [hx, List.getD_eq_getElem?_getD, List.getElem?_eq_getElem h]
  exact List.getElem_mem h
set_option maxRecDepth 100000 in
set_option maxHeartbeats 8000000 in
theorem rparams_any (k : Int) (s : ByteArray) (w : World) (hs : s.size ≤ 600) :
    Calls Tryz.prog 48 #[.string s, .int .i64 k] w fun e w' => parPost (V.rparams k (lst s) []) w.heap.size 600 e w' ∧ Below w.heap.size w w' := by
  obtain ⟨T, hT⟩ : ∃ T, T = V.rparams k (lst s) [] := ⟨_, rfl⟩
  rw [← hT]
  have HT := Aside0.mk hT
  have HSS := Aside0.mk hs
  clear hT
  go_enter Tryz.func48, Tryz.ntmps48
  go_wp2_with (fail)
  go_loopg [0, 6] (s.size + 1) (fun g v0 v6 wr => ∃ (S : ByteArray) (xs : List Prm), S.size + 1 ≤ g ∧ v0 = .string S ∧ S.size ≤ 600 ∧ Aside0 (V.rparams k (lst S) xs = T ∧ xs.length + S.size ≤ 600 ∧ kp.R 47 wr w.heap.size (fun _ => True) v6 xs ∧ Below w.heap.size w wr))
  case atStart => exact ⟨s, [], by omega, rfl, by have := HSS.out; omega, ⟨HT.out.symm, by have := HSS.out; simp; omega, Kd.R_nil _ _ _ _ _, Below.refl _ _⟩⟩
  case round =>
    obtain ⟨S, xs, hg, rfl, hS, H⟩ := hrel
    obtain ⟨wx, rfl⟩ : ∃ wz : World, wz = wr := ⟨_, rfl⟩
    have hl := lst_length S
    cases hls : lst S with
    | nil =>
      have h0 : S.size = 0 := by rw [← hl, hls]; rfl
      have hTT : T = some xs := by rw [← H.out.1, hls]; rfl
      have HTT := Aside0.mk hTT
      have t1 : decide ((0 : Int) < (S.size : Int)) = false := decide_eq_false (by omega)
      have t2 : decide (0 < S.size) = false := decide_eq_false (by omega)
      clear hl hls hTT h0
      go_wp2_with (fail)
      go_ret2
      refine ⟨?_, H.out.2.2.2⟩
      rw [HTT.out]
      exact ⟨_, rfl, H.out.2.2.1, by have := H.out.2.1; omega⟩
    | cons c r =>
      have h1 : S.size = r.length + 1 := by rw [← hl, hls]; rfl
      have t1 : (0 : Int) < (S.size : Int) := by omega
      have t2 : decide (0 < S.size) = true := decide_eq_true (by omega)
      have t3 : 0 < S.size := by omega
      obtain ⟨x, hx⟩ : ∃ x : Int, x = (c.toNat : Int) := ⟨_, rfl⟩
      have hix := fun w => index_str S 0 (by omega) c (by rw [hls]; rfl) x hx w
      rw [show ((0 : Nat) : Int) = 0 from rfl] at hix
      have e32 : (x = 32) ↔ c = 32 := by rw [hx]; exact eqInt c 32 32 rfl
      by_cases hc : c = 32
      · have hxv := e32.2 hc
        obtain ⟨R, hR⟩ : ∃ R, R = str r := ⟨_, rfl⟩
        have hfr := fun w => slice_from S 1 (by omega) R (by rw [hR, hls]; rfl) w
        rw [show ((1 : Nat) : Int) = 1 from rfl] at hfr
        have hRs : R.size = r.length := by rw [hR, str_size]
        have hlR : lst R = r := by rw [hR, lst_str]
        have hTr : V.rparams k (32 :: r) xs = T := by rw [← H.out.1, hls, hc]
        have HTR := Aside0.mk hTr
        have HLR := Aside0.mk hlR
        have HRS := Aside0.mk (show R.size + 1 = S.size by omega)
        have HRL := Aside0.mk hRs
        have hR6 : R.size ≤ 600 := by omega
        subst hxv
        clear hl hls hx hR hRs hlR hTr hc e32 h1
        go_upto_block 2 with (fail)
        go_cut [7] (fun v7 wc => ∃ n : Nat, v7 = .int .i64 n ∧ n ≤ R.size ∧ Aside0 ((∀ j, j < n → r.getD j 0 ≠ 32) ∧ (n = R.size ∨ r.getD n 0 = 32)) ∧ wc = wx)
        case first =>
          go_wp2_with (fail)
          go_loopg [7] R.size (fun g v7 wr => ∃ n : Nat, n ≤ R.size ∧ g + n = R.size ∧ v7 = .int .i64 n ∧ wr = wx ∧ Aside0 (∀ j, j < n → r.getD j 0 ≠ 32))
          case atStart => exact ⟨0, by omega, by omega, rfl, rfl, ⟨fun j hj => by omega⟩⟩
          case round =>
            obtain ⟨n, hn, hg2, rfl, rfl, HN⟩ := hrel
            obtain ⟨wx, rfl⟩ : ∃ wz : World, wz = wr := ⟨_, rfl⟩
            by_cases hlt : n < R.size
            · obtain ⟨d, hd⟩ : ∃ c, c = (lst R).getD n 0 := ⟨_, rfl⟩
              obtain ⟨y, hy⟩ : ∃ x : Int, x = (d.toNat : Int) := ⟨_, rfl⟩
              have hiy := fun w => index_str R n hlt d hd y hy w
              have hlt' : (n : Int) < (R.size : Int) := by omega
              have h0 : (0 : Int) ≤ (n : Int) := by omega
              have e32 : (y = 32) ↔ d = 32 := by rw [hy]; exact eqInt d 32 32 rfl
              have hdr : d = r.getD n 0 := by rw [hd, HLR.out]
              have HDR := Aside0.mk hdr
              clear hd hy hdr
              by_cases hd32 : d = 32
              · have hyv := e32.2 hd32
                subst hyv
                have HD := Aside0.mk hd32
                clear e32 hd32
                go_wp2_with (fail)
                go_meet
                case rel => exact ⟨n, rfl, by omega, ⟨HN.out, Or.inr (by rw [← HDR.out]; exact HD.out)⟩, rfl⟩
              · have hyv : (y != 32) = true := by rw [bne_iff_ne]; exact fun e => hd32 (e32.1 e)
                have HD := Aside0.mk hd32
                clear e32 hd32
                go_wp2_with (fail)
                go_roundg (gk - 1)
                case measure => omega
                case rel =>
                  refine ⟨n + 1, by omega, by omega, by go_num, rfl, ⟨fun j hj => ?_⟩⟩
                  by_cases hjn : j = n
                  · rw [hjn, ← HDR.out]; exact HD.out
                  · exact HN.out j (by omega)
            · have hne : n = R.size := by omega
              have t3 : decide ((n : Int) < (R.size : Int)) = false := by simp; omega
              have t4 : decide (n < R.size) = false := by simp; omega
              have HNE := Aside0.mk hne
              clear hne hlt
              go_wp2_with (fail)
              go_meet
              case rel => exact ⟨n, rfl, by omega, ⟨HN.out, Or.inl HNE.out⟩, rfl⟩
        case rest =>
        obtain ⟨n, rfl, hn, HN, rfl⟩ := hcut
        obtain ⟨wx, rfl⟩ : ∃ wz : World, wz = wc := ⟨_, rfl⟩
        have hstep := rparams_step k r n xs (by rw [← HRL.out]; exact hn) HN.out.1 (by rw [← HRL.out]; exact HN.out.2)
        rw [HTR.out, pstep_prm] at hstep
        obtain ⟨Wd, hWd⟩ : ∃ x, x = str (r.take n) := ⟨_, rfl⟩
        have hto := fun w => slice_to R n hn Wd (by rw [hWd, HLR.out]) w
        obtain ⟨R2, hR2⟩ : ∃ x, x = str (r.drop n) := ⟨_, rfl⟩
        have hfr2 := fun w => slice_from R n hn R2 (by rw [hR2, HLR.out]) w
        have hlR2 : lst R2 = r.drop n := by rw [hR2, lst_str]
        have hR2s : R2.size ≤ R.size := by rw [hR2, str_size, List.length_drop, HRL.out]; omega
        have hWds : Wd.size ≤ 600 := by rw [hWd, str_size, List.length_take, ← HRL.out]; omega
        have hpm := fun w => rparam_any k Wd w (by omega)
        rw [show lst Wd = r.take n from by rw [hWd, lst_str]] at hpm
        have HLR2 := Aside0.mk hlR2
        have HR2S := Aside0.mk hR2s
        clear hWd hR2 hlR2 hR2s hWds
        obtain ⟨A, cc, hv6, hcc, hC⟩ := Kd.R_reads H.out.2.2.1
        subst hv6
        have HRC := Aside0.mk hC
        clear hC hcc
        apply_assumption
        cases hpr : V.prm k (r.take n) with
        | none =>
          rw [hpr] at hstep hpm
          have HTN := Aside0.mk (show T = none from hstep)
          have HPM := Aside0.mk hpm
          clear hstep hpm hpr hfr2
          go_wp2_with (first | (go_at_call 60; (with_reducible refine Calls.mono (HPM.out _) ?_); rintro e w1 ⟨rfl, h⟩; have H1 := Aside0.mk h; clear h; simp only [prmRes]))
          go_ret2
          exact ⟨by rw [HTN.out]; rfl, H.out.2.2.2.trans ((H1.out.trans (Below.mono ((Below.refl _ w1).alloc (Nat.le_refl _) _) H1.out.size)).mono H.out.2.2.2.size)⟩
        | some p =>
          obtain ⟨a, b⟩ := p
          rw [hpr] at hstep hpm
          have HST := Aside0.mk hstep
          have HPM := Aside0.mk hpm
          clear hstep hpm hpr
          go_upto_region 12 with (first | (go_at_call 60; (with_reducible refine Calls.mono (HPM.out _) ?_); rintro e w1 ⟨rfl, h⟩; have H1 := Aside0.mk h; clear h; simp only [prmRes]))
          obtain ⟨w2, hw2⟩ : ∃ w2, w2 = w1.alloc (.cells #[.string (str a), .string (str b)] 47) := ⟨_, rfl⟩
          rw [← hw2]
          obtain ⟨G, hG⟩ : ∃ G, G = w1.heap.size := ⟨_, rfl⟩
          rw [← hG]
          have hr : w2.heap[G]? = some (.cells #[.string (str a), .string (str b)] 47 (0, 0)) := by rw [hw2, hG]; exact heap_alloc_new _ _
          have hb1 : Below w1.heap.size w1 w2 := by rw [hw2]; exact (Below.refl _ _).alloc (Nat.le_refl _) _
          have hb2 : Below wx.heap.size wx w2 := H1.out.trans (hb1.mono H1.out.size)
          have hs2 : G < w2.heap.size := (Array.getElem?_eq_some_iff.1 hr).1
          have hrow : ∀ wy, Below w2.heap.size w2 wy → wy.cell? ⟨G, 0, none⟩ = some (.string (str a)) ∧ wy.cell? ⟨G, 1, none⟩ = some (.string (str b)) := by
            intro wy h
            have hr' := (h.block _ hs2).trans hr
            exact ⟨by rw [cell_of_row wy _ _ _ _ _ hr']; rfl, by rw [cell_of_row wy _ _ _ _ _ hr']; rfl⟩
          have HRO := Aside0.mk hrow
          have HB2 := Aside0.mk hb2
          have HC2 := Aside0.mk (Kd.C_below HRC.out hb2)
          clear hw2 hG hr hb1 hb2 hs2 hrow
          go_upto_block 4 with (fail)
          go_cut [10] (fun v10 wc => Aside0 (xs.any (fun y => decide (y.1 = a)) = false ∧ Drawn0 w2 wc))
          case first =>
            go_wp2_with (fail)
            go_loopg [10] xs.length (fun g v10 wr => ∃ i : Nat, i ≤ xs.length ∧ g + i = xs.length ∧ v10 = .int .i64 i ∧ Aside0 ((xs.take i).any (fun y => decide (y.1 = a)) = false ∧ Drawn0 w2 wr))
            case atStart => exact ⟨0, by omega, by omega, rfl, ⟨rfl, Drawn0.refl _⟩⟩
            case round =>
              obtain ⟨i, hi, hg3, rfl, HI⟩ := hrel
              obtain ⟨wy, rfl⟩ : ∃ wz : World, wz = wr := ⟨_, rfl⟩
              obtain ⟨c0, c1⟩ := HRO.out wy (drawn_below HI.out.2)
              by_cases hlt : i < xs.length
              · obtain ⟨z, hz⟩ : ∃ z, z = xs.getD i ([], []) := ⟨_, rfl⟩
                obtain ⟨ad, rfl, p0, p1'⟩ := kp_at (Kd.C_below HC2.out (drawn_below HI.out.2)) i hlt z hz
                have ek : ((str z.1).toList == (str a).toList) = decide (z.1 = a) := by rw [str_eqB, lst_str, lst_str]
                have hlt' : (i : Int) < (xs.length : Int) := by omega
                have h0 : (0 : Int) ≤ (i : Int) := by omega
                have HAT := Aside0.mk (any_take xs a i hlt z hz)
                have HAM := Aside0.mk (any_mem xs a i hlt z hz)
                have HXL := Aside0.mk hlt
                clear hz
                by_cases he : z.1 = a
                · rw [decide_eq_true he] at ek
                  have hTN : T = none := by
                    have e := HST.out
                    simp only [HAM.out he, if_true] at e
                    exact e
                  have HTN := Aside0.mk hTN
                  clear hTN he
                  go_wp2_with (fail)
                  repeat (go_quiet (fail); try go_wp2_with (fail))
                  go_ret2
                  refine ⟨by rw [HTN.out]; rfl, H.out.2.2.2.trans ((HB2.out.trans ((drawn_below (by repeat (first | exact Drawn0.refl _ | exact HI.out.2 | apply Drawn0.step))).mono HB2.out.size)).mono H.out.2.2.2.size)⟩
                · rw [decide_eq_false he] at ek
                  have HNE := Aside0.mk he
                  have hxn := H.out.2.1
                  clear he
                  go_wp2_with (fail)
                  repeat (go_quiet (fail); try go_wp2_with (fail))
                  go_roundg (gk - 1)
                  case measure => omega
                  case rel =>
                    refine ⟨i + 1, by omega, by omega, by go_num, ⟨by rw [HAT.out, HI.out.1, decide_eq_false HNE.out]; rfl, by repeat (first | exact Drawn0.refl _ | exact HI.out.2 | apply Drawn0.step)⟩⟩
              · have hne : i = xs.length := by omega
                subst hne
                have t5 : decide ((xs.length : Int) < (xs.length : Int)) = false := by simp
                clear hlt
                go_wp2_with (fail)
                go_meet
                case rel => exact ⟨by rw [List.take_length] at HI; exact HI.out⟩
          case rest =>
          obtain ⟨w3, rfl⟩ : ∃ wz : World, wz = wc := ⟨_, rfl⟩
          have HTR2 := Aside0.mk (show V.rparams k (lst R2) (xs ++ [(a, b)]) = T by
            rw [HST.out, HLR2.out]
            show _ = (match (if xs.any (fun y => decide (y.1 = a)) = true then none else some (xs ++ [(a, b)])) with | none => none | some xs' => V.rparams k (r.drop n) xs')
            rw [hcut.out.1, if_neg (by decide)])
          have hb23 : Below w2.heap.size w2 w3 := drawn_below hcut.out.2
          have hbx3 : Below wx.heap.size wx w3 := HB2.out.trans (hb23.mono HB2.out.size)
          have HR3 := Aside0.mk (Kd.R_below H.out.2.2.1 hbx3)
          have HB3 := Aside0.mk (H.out.2.2.2.trans (hbx3.mono H.out.2.2.2.size))
          obtain ⟨c0, c1⟩ := HRO.out w3 hb23
          clear hb23 hbx3 hcut
          apply_assumption
          go_wp2_with (first | ((with_reducible refine gate_builtin (b := .append) (xs := #[.tmp 55, .tmp 57]) rfl ?_); at_builtin; refine Kd.R_append kp (w0 := w) w.heap.size rfl (.tmp 55) (.tmp 57) 24 47 (.agg #[.string ⟨#[]⟩, .string ⟨#[]⟩]) 32 rfl Tryz.underlying24 infoP rfl (by decide) (by omega) (.slice A xs.length cc) xs (a, b) [.string (str a), .string (str b)] (fun _ => True) (fun _ => False) rfl rfl (kp_mkM _ _ _ (a, b)) (fun _ hk => hk.elim) (fun _ _ => trivial) HR3.out HB3.out HB3.out.size (by have := H.out.2.1; omega) ?_; intro v1 w5 hR5 hB5 hg5 hat5; have HR5 := Aside0.mk hR5; have HB5 := Aside0.mk hB5; clear hR5 hB5 hg5 hat5))
          go_roundg (gk - 1)
          case measure => have := HRS.out; omega
          case rel =>
            have h3 := HRS.out
            have h4 := HR2S.out
            have h5 := H.out.2.1
            exact ⟨R2, xs ++ [(a, b)], by omega, rfl, by omega, ⟨HTR2.out, by rw [List.length_append, List.length_singleton]; omega, HR5.out, HB5.out⟩⟩
      · have hxv : (x != 32) = true := by rw [bne_iff_ne]; exact fun e => hc (e32.1 e)
        have HTN := Aside0.mk (show T = none by rw [← H.out.1, hls]; exact rparams_bad k c r xs hc)
        clear hl hls hx hc e32 h1
        go_wp2_with (fail)
        go_ret2
        exact ⟨by rw [HTN.out]; rfl, H.out.2.2.2⟩
end Go.Proofs.YteiknmcmaemcoaaGreatDoor
/- (ZD) The reference's pathed: the walk. -/
namespace Go.Proofs.YteiknmcmaemcoaaGreatDoor
open Go.RowKit Go.Lib
open Go.Proofs.YteiknmcmaemcoaaGreatDoorW.PrintWords Go.Proofs.YteiknmcmaemcoaaGreatDoorW.PrintLast Go.Proofs.YteiknmcmaemcoaaGreatDoorW.PrintMore
set_option linter.unusedVariables false
set_option linter.unusedSimpArgs false
abbrev zrow : Array Value := #[.int .i64 0, .string { data := #[] }, .bool false, .string { data := #[] }, .string { data := #[] }, .slice none 0 0]
theorem zero_uni (e : Ending) (w : World) (n : Int) (h : e = .returned (.tuple #[.agg zrow, .int .i64 n])) : uniPost V.noCmd n e w := ⟨none, 0, h, Kd.C_nil _ _, Nat.zero_le _⟩
theorem zero_ans (yes : Value) (n : Int) (B : Nat) (w : World) : cmdPost none yes (.int .i64 n) B (.returned (.tuple #[.agg zrow, .int .i64 n])) w := rfl
set_option maxRecDepth 100000 in
set_option maxHeartbeats 8000000 in
theorem rpathed_any (k : Int) (s : ByteArray) (w : World) (hs : s.size ≤ 600) (hk : k = 2 ∨ k = 3) :
    Calls Tryz.prog 28 #[.string s, .int .i64 k] w fun e w' => cmdPost (V.mailbox k (lst s)) (.int .i64 0) (.int .i64 501) w.heap.size e w' ∧ Below w.heap.size w w' := by
  obtain ⟨T, hT⟩ : ∃ T, T = V.mailbox k (lst s) := ⟨_, rfl⟩
  rw [← hT]
  have HT := Aside0.mk hT
  have HKK := Aside0.mk hk
  obtain ⟨w1, hw1⟩ : ∃ w1, w1 = w.alloc (.cells zrow 26) := ⟨_, rfl⟩
  have hb1 : Below w.heap.size w w1 := by rw [hw1]; exact (Below.refl _ w).alloc (Nat.le_refl _) _
  have hra : w1.heap[w.heap.size]? = some (.cells zrow 26 (0, 0)) := by rw [hw1]; exact heap_alloc_new _ _
  have hsb : w.heap.size < w1.heap.size := (Array.getElem?_eq_some_iff.1 hra).1
  have hrow : ∀ wx, Below w1.heap.size w1 wx → wx.heap[w.heap.size]? = some (.cells zrow 26 (0, 0)) := fun wx h => (h.block _ hsb).trans hra
  obtain ⟨G, hG⟩ : ∃ G, G = w.heap.size := ⟨_, rfl⟩
  have HRO := Aside0.mk hrow
  have HB1 := Aside0.mk hb1
  have HSB := Aside0.mk hsb
  clear hT hk hrow hb1 hsb hra
  go_enter Tryz.func28, Tryz.ntmps28
  go_upto_region 1 with (fail)
  rw [← hw1]
  clear hw1
  go_upto_block 0 with (fail)
  go_cut [6] (fun v6 wc => ∃ n : Nat, v6 = .int .i64 n ∧ n ≤ s.size ∧ Aside0 ((∀ j, j < n → (lst s).getD j 0 ≠ 62) ∧ (n = s.size ∨ (lst s).getD n 0 = 62)) ∧ wc = w1)
  case first =>
    go_wp2_with (fail)
    go_loopg [6] s.size (fun g v6 wr => ∃ n : Nat, n ≤ s.size ∧ g + n = s.size ∧ v6 = .int .i64 n ∧ wr = w1 ∧ Aside0 (∀ j, j < n → (lst s).getD j 0 ≠ 62))
    case atStart => exact ⟨0, by omega, by omega, rfl, rfl, ⟨fun j hj => by omega⟩⟩
    case round =>
      obtain ⟨n, hn, hg2, rfl, rfl, HN⟩ := hrel
      obtain ⟨wx, rfl⟩ : ∃ wz : World, wz = wr := ⟨_, rfl⟩
      by_cases hlt : n < s.size
      · obtain ⟨d, hd⟩ : ∃ c, c = (lst s).getD n 0 := ⟨_, rfl⟩
        obtain ⟨y, hy⟩ : ∃ x : Int, x = (d.toNat : Int) := ⟨_, rfl⟩
        have hiy := fun w => index_str s n hlt d hd y hy w
        have hlt' : (n : Int) < (s.size : Int) := by omega
        have h0 : (0 : Int) ≤ (n : Int) := by omega
        have e62 : (y = 62) ↔ d = 62 := by rw [hy]; exact eqInt d 62 62 rfl
        have HDR := Aside0.mk hd
        clear hd hy
        by_cases hd62 : d = 62
        · have hyv := e62.2 hd62
          subst hyv
          have HD := Aside0.mk hd62
          clear e62 hd62
          go_wp2_with (fail)
          go_meet
          case rel => exact ⟨n, rfl, by omega, ⟨HN.out, Or.inr (by rw [← HDR.out]; exact HD.out)⟩, rfl⟩
        · have hyv : (y != 62) = true := by rw [bne_iff_ne]; exact fun e => hd62 (e62.1 e)
          have HD := Aside0.mk hd62
          clear e62 hd62
          go_wp2_with (fail)
          go_roundg (gk - 1)
          case measure => omega
          case rel =>
            refine ⟨n + 1, by omega, by omega, by go_num, rfl, ⟨fun j hj => ?_⟩⟩
            by_cases hjn : j = n
            · rw [hjn, ← HDR.out]; exact HD.out
            · exact HN.out j (by omega)
      · have hne : n = s.size := by omega
        have t3 : decide ((n : Int) < (s.size : Int)) = false := by simp; omega
        have t4 : decide (n < s.size) = false := by simp; omega
        have HNE := Aside0.mk hne
        clear hne hlt
        go_wp2_with (fail)
        go_meet
        case rel => exact ⟨n, rfl, by omega, ⟨HN.out, Or.inl HNE.out⟩, rfl⟩
  case rest =>
  obtain ⟨n, rfl, hn, HN, rfl⟩ := hcut
  obtain ⟨w1, rfl⟩ : ∃ wz : World, wz = wc := ⟨_, rfl⟩
  apply_assumption
  have hl := lst_length s
  by_cases hne : n = s.size
  · have HTN := Aside0.mk (show T = none by
      rw [HT.out]
      refine mailbox_none ?_
      intro hm
      obtain ⟨j, hj, e⟩ := List.getElem_of_mem hm
      refine HN.out.1 j (by omega) ?_
      rw [List.getD_eq_getElem?_getD, List.getElem?_eq_getElem hj]
      exact e)
    obtain ⟨⟨a0, a1, a2, a3, a4, a5⟩, f0, f1, f2, f3, f4, f5⟩ := cells6 (HRO.out w1 (Below.refl _ _))
    have t5 : ((n : Int) == (s.size : Int)) = true := by simp; omega
    have t6 : decide ((n : Int) = (s.size : Int)) = true := by simp; omega
    subst hne
    clear hl
    go_wp2_with (fail)
    refine bodyPost_ret (v := .tuple #[.agg zrow, .int .i64 501]) ?_ rfl ⟨(by rw [HTN.out]; exact zero_ans _ _ _ _), ?_⟩
    · exact results_ct (by rfl) _ _ w.heap.size 26 _ (0, 0) _ rfl (row6 (HRO.out w1 (Below.refl _ _))) Tryz.underlying26 rfl (by kernel_rfl) _ rfl
    · exact below6 HB1.out (Nat.le_refl _)
  · have hlt : n < (lst s).length := by omega
    have h62 : (lst s).getD n 0 = 62 := by
      rcases HN.out.2 with h | h
      · exact absurd h hne
      · exact h
    obtain ⟨a, ha⟩ : ∃ a, a = (lst s).take n := ⟨_, rfl⟩
    obtain ⟨b, hb⟩ : ∃ b, b = (lst s).drop (n + 1) := ⟨_, rfl⟩
    have hsplit : lst s = a ++ 62 :: b := by
      rw [ha, hb, ← h62, ← drop_getD _ _ hlt, List.take_append_drop]
    have ha62 : 62 ∉ a := by
      intro hm
      rw [ha] at hm
      obtain ⟨j, hj, e⟩ := List.getElem_of_mem hm
      rw [List.length_take] at hj
      refine HN.out.1 j (by omega) ?_
      rw [List.getElem_take] at e
      rw [List.getD_eq_getElem?_getD, List.getElem?_eq_getElem (by omega)]
      exact e
    have hmb : T = V.mbox k (V.pparse (a ++ [62])) (V.rparams k b []) := by rw [HT.out, hsplit, mailbox_at a b ha62]
    have htk : (lst s).take (n + 1) = a ++ [62] := by rw [getD_at _ _ hlt, h62, ha]
    obtain ⟨X, hX⟩ : ∃ X, X = str (a ++ [62]) := ⟨_, rfl⟩
    obtain ⟨Y, hY⟩ : ∃ Y, Y = str b := ⟨_, rfl⟩
    have HXE := Aside0.mk (show s.extract 0 (n + 1) = X by rw [ext_take, hX, htk])
    have HYE := Aside0.mk (show s.extract (n + 1) s.size = Y by rw [ext_drop, hY, hb])
    have hXs : X.size ≤ 600 := by rw [hX, str_size, ← htk, List.length_take]; omega
    have hYs : Y.size ≤ 600 := by rw [hY, str_size, hb, List.length_drop]; omega
    have hpp := fun w => rparse_any X w hXs
    rw [show lst X = a ++ [62] from by rw [hX, lst_str]] at hpp
    have hpr := fun w => rparams_any k Y w hYs
    rw [show lst Y = b from by rw [hY, lst_str]] at hpr
    have t5 : ((n : Int) == (s.size : Int)) = false := by rw [beq_eq_false_iff_ne]; omega
    have t6 : decide ((n : Int) = (s.size : Int)) = false := by rw [decide_eq_false_iff_not]; omega
    have hkz : (Lit.int .i64 k).wf = true := by rcases HKK.out with h | h <;> rw [h] <;> decide
    have HMB := Aside0.mk hmb
    have hnl : n < s.size := by omega
    clear hl hlt h62 ha hb hsplit ha62 hmb htk hX hY hXs hYs hne hkz
    have HPP := Aside0.mk hpp
    have HPR := Aside0.mk hpr
    clear hpp hpr
    cases hP : V.pparse (a ++ [62]) with
    | none =>
      rw [hP] at HPP HMB
      have HTN := Aside0.mk (show T = none by rw [HMB.out]; rfl)
      clear hP
      cases hQ : V.rparams k b [] with
      | none =>
        rw [hQ] at HPR
        clear hQ
        go_upto_region 8 with (first | (go_at_call 47; rw [HXE.out]; (with_reducible refine Calls.mono (HPP.out _) ?_); rintro e w2 ⟨rfl, h⟩; have H2 := Aside0.mk h; clear h; simp only [rpres, pval, Option.getD_none, Option.isSome_none]) | (go_at_call 48; rw [HYE.out]; (with_reducible refine Calls.mono (HPR.out _) ?_); rintro e w4 ⟨rfl, h⟩; have H4 := Aside0.mk h; clear h))
        have hb4 : Below w1.heap.size w1 w4 := H2.out.trans ((((Below.refl _ w2).alloc (Nat.le_refl _) _).trans (H4.out.mono (by simp))).mono H2.out.size)
        have HRW4 := Aside0.mk (HRO.out w4 hb4)
        have HB4 := Aside0.mk hb4
        obtain ⟨⟨a0, a1, a2, a3, a4, a5⟩, f0, f1, f2, f3, f4, f5⟩ := cells6 HRW4.out
        clear hb4
        go_wp2_with (fail)
        refine bodyPost_ret (v := .tuple #[.agg zrow, .int .i64 501]) ?_ rfl ⟨by rw [HTN.out]; exact zero_ans _ _ _ _, ?_⟩
        · exact results_ct (by rfl) _ _ w.heap.size 26 _ (0, 0) _ rfl (row6 HRW4.out) Tryz.underlying26 rfl (by kernel_rfl) _ rfl
        · exact below6 (HB1.out.trans (HB4.out.mono HB1.out.size)) (Nat.le_refl _)
      | some ps =>
        rw [hQ] at HPR
        clear hQ
        go_upto_region 8 with (first | (go_at_call 47; rw [HXE.out]; (with_reducible refine Calls.mono (HPP.out _) ?_); rintro e w2 ⟨rfl, h⟩; have H2 := Aside0.mk h; clear h; simp only [rpres, pval, Option.getD_none, Option.isSome_none]) | (go_at_call 48; rw [HYE.out]; (with_reducible refine Calls.mono (HPR.out _) ?_); rintro e w4 ⟨⟨v, rfl, hR, hl⟩, h⟩; have H4 := Aside0.mk h; clear h hR hl))
        have hb4 : Below w1.heap.size w1 w4 := H2.out.trans ((((Below.refl _ w2).alloc (Nat.le_refl _) _).trans (H4.out.mono (by simp))).mono H2.out.size)
        have HRW4 := Aside0.mk (HRO.out w4 hb4)
        have HB4 := Aside0.mk hb4
        obtain ⟨⟨a0, a1, a2, a3, a4, a5⟩, f0, f1, f2, f3, f4, f5⟩ := cells6 HRW4.out
        clear hb4
        go_wp2_with (fail)
        refine bodyPost_ret (v := .tuple #[.agg zrow, .int .i64 501]) ?_ rfl ⟨by rw [HTN.out]; exact zero_ans _ _ _ _, ?_⟩
        · exact results_ct (by rfl) _ _ w.heap.size 26 _ (0, 0) _ rfl (row6 HRW4.out) Tryz.underlying26 rfl (by kernel_rfl) _ rfl
        · exact below6 (HB1.out.trans (HB4.out.mono HB1.out.size)) (Nat.le_refl _)
    | some p =>
      rw [hP] at HPP HMB
      clear hP
      cases hQ : V.rparams k b [] with
      | none =>
        rw [hQ] at HPR HMB
        clear hQ
        have HTN := Aside0.mk (show T = none by rw [HMB.out]; rfl)
        go_upto_region 8 with (first | (go_at_call 47; rw [HXE.out]; (with_reducible refine Calls.mono (HPP.out _) ?_); rintro e w2 ⟨rfl, h⟩; have H2 := Aside0.mk h; clear h; simp only [rpres, pval, Option.getD_some, Option.isSome_some]) | (go_at_call 48; rw [HYE.out]; (with_reducible refine Calls.mono (HPR.out _) ?_); rintro e w4 ⟨rfl, h⟩; have H4 := Aside0.mk h; clear h))
        have hb4 : Below w1.heap.size w1 w4 := H2.out.trans ((((Below.refl _ w2).alloc (Nat.le_refl _) _).trans (H4.out.mono (by simp))).mono H2.out.size)
        have HRW4 := Aside0.mk (HRO.out w4 hb4)
        have HB4 := Aside0.mk hb4
        obtain ⟨⟨a0, a1, a2, a3, a4, a5⟩, f0, f1, f2, f3, f4, f5⟩ := cells6 HRW4.out
        clear hb4
        go_wp2_with (fail)
        refine bodyPost_ret (v := .tuple #[.agg zrow, .int .i64 501]) ?_ rfl ⟨by rw [HTN.out]; exact zero_ans _ _ _ _, ?_⟩
        · exact results_ct (by rfl) _ _ w.heap.size 26 _ (0, 0) _ rfl (row6 HRW4.out) Tryz.underlying26 rfl (by kernel_rfl) _ rfl
        · exact below6 (HB1.out.trans (HB4.out.mono HB1.out.size)) (Nat.le_refl _)
      | some ps =>
        rw [hQ] at HPR HMB
        clear hQ
        have hmb : T = if k = 3 ∧ p.null = true then none else some ⟨k, [], p, ps⟩ := HMB.out
        have HMB2 := Aside0.mk hmb
        obtain ⟨pn, hpn⟩ : ∃ b, b = p.null := ⟨_, rfl⟩
        obtain ⟨pl, hpl⟩ : ∃ b, b = str p.loc := ⟨_, rfl⟩
        obtain ⟨pd, hpd⟩ : ∃ b, b = str p.dom := ⟨_, rfl⟩
        have HPN := Aside0.mk hpn
        have HPL := Aside0.mk hpl
        have HPD := Aside0.mk hpd
        clear hmb hpn hpl hpd
        go_upto_region 7 with (first | (go_at_call 47; rw [HXE.out]; (with_reducible refine Calls.mono (HPP.out _) ?_); rintro e w2 ⟨rfl, h⟩; have H2 := Aside0.mk h; clear h; simp only [rpres, pval, Option.getD_some, Option.isSome_some]; rw [← HPN.out, ← HPL.out, ← HPD.out]))
        obtain ⟨w3, hw3⟩ : ∃ w3, w3 = w2.alloc (.cells #[.bool pn, .string pl, .string pd] 23) := ⟨_, rfl⟩
        rw [← hw3]
        obtain ⟨G3, hG3⟩ : ∃ G, G = w2.heap.size := ⟨_, rfl⟩
        rw [← hG3]
        have hr : w3.heap[G3]? = some (.cells #[.bool pn, .string pl, .string pd] 23 (0, 0)) := by rw [hw3, hG3]; exact heap_alloc_new _ _
        have hb1 : Below w2.heap.size w2 w3 := by rw [hw3]; exact (Below.refl _ _).alloc (Nat.le_refl _) _
        have hb3 : Below w1.heap.size w1 w3 := H2.out.trans (hb1.mono H2.out.size)
        have hs3 : G3 < w3.heap.size := (Array.getElem?_eq_some_iff.1 hr).1
        have HR3 := Aside0.mk (fun (wy : World) (h : Below w3.heap.size w3 wy) => (h.block _ hs3).trans hr)
        have HB3 := Aside0.mk hb3
        clear hw3 hG3 hr hb1 hb3 hs3
        go_upto_region 8 with (first | (go_at_call 48; rw [HYE.out]; (with_reducible refine Calls.mono (HPR.out _) ?_); rintro e w4 ⟨⟨v, rfl, hR, hl⟩, h⟩; have H4 := Aside0.mk h; have HR4 := Aside0.mk hR; have HL4 := Aside0.mk hl; clear h hR hl))
        obtain ⟨b0, b1, b2, g0, g1, g2⟩ := cells3 (HR3.out w4 H4.out)
        obtain ⟨A, cc, hv, hcc, hC⟩ := Kd.R_reads HR4.out
        subst hv
        have HC4 := Aside0.mk hC
        have hb4 : Below w1.heap.size w1 w4 := HB3.out.trans (H4.out.mono HB3.out.size)
        have hrow4 := HRO.out w4 hb4
        have HRW4 := Aside0.mk hrow4
        have HB4 := Aside0.mk hb4
        obtain ⟨⟨a0, a1, a2, a3, a4, a5⟩, f0, f1, f2, f3, f4, f5⟩ := cells6 hrow4
        clear hcc hC hb4 hrow4
        have hgood : ∀ (wy : World), T = some ⟨k, [], p, ps⟩ → kp.R 47 wy w.heap.size (fun _ => True) (.slice A ps.length cc) ps → cmdPost T (.int .i64 0) (.int .i64 501) w.heap.size (.returned (.tuple #[.agg #[.int .i64 k, .string { data := #[] }, .bool pn, .string pl, .string pd, .slice A ps.length cc], .int .i64 0])) wy := by
          intro wy h hR
          rw [h, HPN.out, HPL.out, HPD.out]
          exact ⟨_, rfl, hR, by have := HL4.out; show ps.length ≤ 100000; omega⟩
        have hg3 : w.heap.size < w3.heap.size := Nat.lt_of_lt_of_le HSB.out HB3.out.size
        have HG3 := Aside0.mk hg3
        clear hg3
        have HGOOD := Aside0.mk hgood
        clear hgood
        by_cases hk3 : k = 3
        · subst hk3
          cases pn with
          | true =>
            have HTN := Aside0.mk (show T = none by rw [HMB2.out, if_pos ⟨rfl, HPN.out.symm⟩])
            go_wp2_with (fail)
            refine bodyPost_ret (v := .tuple #[.agg zrow, .int .i64 501]) ?_ rfl ⟨by rw [HTN.out]; exact zero_ans _ _ _ _, ?_⟩
            · exact results_ct (by rfl) _ _ w.heap.size 26 _ (0, 0) _ rfl (row6 HRW4.out) Tryz.underlying26 rfl (by kernel_rfl) _ rfl
            · exact below6 (HB1.out.trans (HB4.out.mono HB1.out.size)) (Nat.le_refl _)
          | false =>
            have HTS := Aside0.mk (show T = some ⟨3, [], p, ps⟩ by rw [HMB2.out, if_neg (fun e => by rw [← HPN.out] at e; exact absurd e.2 (by decide))])
            go_wp2_with (fail)
            refine bodyPost_ret (v := .tuple #[.agg #[.int .i64 3, .string { data := #[] }, .bool false, .string pl, .string pd, .slice A ps.length cc], .int .i64 0]) ?_ rfl ⟨HGOOD.out _ HTS.out (fin_R HR4.out HG3.out (Nat.le_of_lt HG3.out)), ?_⟩
            · exact results_ct (by rfl) _ _ w.heap.size 26 _ (0, 0) _ rfl (row6 HRW4.out) Tryz.underlying26 rfl (by kernel_rfl) _ rfl
            · exact below6 (HB1.out.trans (HB4.out.mono HB1.out.size)) (Nat.le_refl _)
        · have hk2 : k = 2 := by rcases HKK.out with h | h; exact h; exact absurd h hk3
          subst hk2
          have HTS := Aside0.mk (show T = some ⟨2, [], p, ps⟩ by rw [HMB2.out, if_neg (fun e => absurd e.1 (by decide))])
          clear hk3
          go_wp2_with (fail)
          refine bodyPost_ret (v := .tuple #[.agg #[.int .i64 2, .string { data := #[] }, .bool pn, .string pl, .string pd, .slice A ps.length cc], .int .i64 0]) ?_ rfl ⟨HGOOD.out _ HTS.out (fin_R HR4.out HG3.out (Nat.le_of_lt HG3.out)), ?_⟩
          · exact results_ct (by rfl) _ _ w.heap.size 26 _ (0, 0) _ rfl (row6 HRW4.out) Tryz.underlying26 rfl (by kernel_rfl) _ rfl
          · exact below6 (HB1.out.trans (HB4.out.mono HB1.out.size)) (Nat.le_refl _)
end Go.Proofs.YteiknmcmaemcoaaGreatDoor
/- (ZD) The reference's Verb: the walk. -/
namespace Go.Proofs.YteiknmcmaemcoaaGreatDoor
open Go.RowKit Go.Lib
open Go.Proofs.YteiknmcmaemcoaaGreatDoorW.PrintWords Go.Proofs.YteiknmcmaemcoaaGreatDoorW.PrintLast Go.Proofs.YteiknmcmaemcoaaGreatDoorW.PrintMore
set_option linter.unusedVariables false
set_option linter.unusedSimpArgs false
theorem C_strings (ws : List ByteArray) (b t : Nat) (fr : Nat × Nat) (w : World) (hb : w.heap[b]? = some (.cells ((ws.map Value.string).toArray) t fr)) (hl : ws.length ≤ 1000) : Kd.C Kd.string w (some ⟨b, 0, none⟩) ws.length ws := by
  refine ⟨rfl, by omega, fun _ => ⟨_, rfl, fun j p hp => ⟨[.string p], rfl, rfl, fun i u hu => ?_⟩⟩⟩
  have hi : i = 0 := by
    cases i with
    | zero => rfl
    | succ i => simp at hu
  subst hi
  simp at hu
  subst hu
  have hj : j < ws.length := (List.getElem?_eq_some_iff.1 hp).1
  have e1 : Kd.string.sz = 1 := rfl
  rw [e1, Nat.mul_one, Nat.add_zero]
  have e2 : ∀ j : Nat, (⟨b, 0, none⟩ : Addr).add j = ⟨b, j, none⟩ := by
    intro j
    unfold Addr.add
    split
    · rename_i h; rw [h]
    · simp
  rw [e2, cell_of_row w b _ _ _ _ hb]
  simp only [List.getElem?_toArray, List.getElem?_map, hp]
  rfl
def wordsS : List ByteArray := [⟨#[101, 104, 108, 111]⟩, ⟨#[104, 101, 108, 111]⟩, ⟨#[109, 97, 105, 108]⟩, ⟨#[114, 99, 112, 116]⟩, ⟨#[100, 97, 116, 97]⟩, ⟨#[114, 115, 101, 116]⟩, ⟨#[113, 117, 105, 116]⟩, ⟨#[110, 111, 111, 112]⟩, ⟨#[118, 114, 102, 121]⟩, ⟨#[101, 116, 114, 110]⟩, ⟨#[97, 117, 116, 104]⟩, ⟨#[97, 116, 114, 110]⟩]
theorem words_any (s : ByteArray) : (wordsS.any fun x => decide (lst x = lst s)) = decide (lst s ∈ wordsL) := by
  have e : wordsL = wordsS.map lst := by rw [words_eq]; rfl
  rw [e, Bool.eq_iff_iff, List.any_eq_true, decide_eq_true_eq, List.mem_map]
  constructor
  · rintro ⟨x, h1, h2⟩
    exact ⟨x, h1, of_decide_eq_true h2⟩
  · rintro ⟨x, h1, h2⟩
    exact ⟨x, h1, decide_eq_true h2⟩
theorem rdomain_any (s : ByteArray) (w : World) (hs : s.size ≤ 600) :
    Calls Tryz.prog 26 #[.string s] w fun e w' => e = .returned (.bool (V.domain (lst s))) ∧ Drawn0 w w' :=
  PVerbExact.wherryref11_Domain.calls _ s _ w (ref_domain2 s hs _ (Nat.le_refl _))
theorem rfold_any (s : ByteArray) (w : World) (hs : s.size ≤ 10000) :
    Calls Tryz.prog 29 #[.string s] w fun e w' => e = .returned (.string (str (V.fold (lst s)))) ∧ Below w.heap.size w w' :=
  PVerbExact.wherryref11_Fold.calls _ s _ w (ref_fold s hs _ (Nat.le_refl _))
theorem rfirst_any (s : ByteArray) (w : World) (hs : s.size ≤ 10000) :
    Calls Tryz.prog 24 #[.string s] w fun e w' => e = .returned (.string (str (V.fold (V.first (lst s))))) ∧ Below w.heap.size w w' :=
  PVerbExact.wherryref11_first.calls _ s _ w (ref_first s hs _ (Nat.le_refl _))
theorem rmech_any (s : ByteArray) (w : World) (hs : s.size ≤ 10000) :
    Calls Tryz.prog 30 #[.string s] w fun e w' => e = .returned (.bool ((lst s).all goodL && !(lst s).isEmpty)) ∧ Drawn0 w w' :=
  PVerbExact.wherryref11_mechanism.calls _ s _ w (ref_mech s hs _ (Nat.le_refl _))
theorem rbegins_any (s b : ByteArray) (w : World) (hs : s.size ≤ 10000) (hb : V.fold (lst b) = lst b) :
    Calls Tryz.prog 27 #[.string s, .string b] w fun e w' => e = .returned (.tuple #[.string (begRes (V.after (lst s) (lst b))).1, .bool (begRes (V.after (lst s) (lst b))).2]) ∧ Below w.heap.size w w' :=
  PVerbExact.wherryref11_begins.calls _ s b _ _ w (ref_begins s b hs hb _ (Nat.le_refl _))
theorem uni_none {l : V.Bs} {n : Int} {e : Ending} {w : World} (h : V.parse l = (none, n)) (he : e = .returned (.tuple #[.agg zrow, .int .i64 n])) : uniPost (V.cmd l) (V.code l) e w := by
  unfold V.cmd V.code
  rw [h]
  exact zero_uni e w n he
theorem uni_some {l : V.Bs} {k : Int} {t : V.Bs} {T : ByteArray} {e : Ending} {w : World} (h : V.parse l = (some ⟨k, t, V.noPath, []⟩, 0)) (hT : T = str t) (he : e = .returned (.tuple #[.agg #[.int .i64 k, .string T, .bool false, .string { data := #[] }, .string { data := #[] }, .slice none 0 0], .int .i64 0])) : uniPost (V.cmd l) (V.code l) e w := by
  unfold V.cmd V.code
  rw [h]
  subst hT
  exact ⟨none, 0, he, Kd.C_nil _ _, Nat.zero_le _⟩
theorem uni_path {l : V.Bs} {c : V.Cmd} {v : Value} {B : Nat} {e : Ending} {w : World} (h : V.parse l = (some c, 0)) (hR : kp.R 47 w B (fun _ => True) v c.prms) (hl : c.prms.length ≤ 100000) (he : e = .returned (.tuple #[cval c v, .int .i64 0])) : uniPost (V.cmd l) (V.code l) e w := by
  unfold V.cmd V.code
  rw [h]
  obtain ⟨A, q, rfl, _, hC⟩ := Kd.R_reads hR
  exact ⟨A, q, he, hC, hl⟩
theorem mail_len {k : Int} {r x : V.Bs} {b : V.Bs} (h : V.after r b = some x) : x.length ≤ r.length := V.after_len h
set_option maxRecDepth 100000 in
set_option maxHeartbeats 16000000 in
theorem rverb_any (s : ByteArray) (w : World) (hs : s.size ≤ 100000) :
    Calls Tryz.prog 7 #[.string s] w fun e w' => uniPost (V.cmd (lst s)) (V.code (lst s)) e w' ∧ Below w.heap.size w w' := by
  obtain ⟨w1, hw1⟩ : ∃ w1, w1 = w.alloc (.cells zrow 26) := ⟨_, rfl⟩
  have hb1 : Below w.heap.size w w1 := by rw [hw1]; exact (Below.refl _ w).alloc (Nat.le_refl _) _
  have hra : w1.heap[w.heap.size]? = some (.cells zrow 26 (0, 0)) := by rw [hw1]; exact heap_alloc_new _ _
  have hsb : w.heap.size < w1.heap.size := (Array.getElem?_eq_some_iff.1 hra).1
  have hrow : ∀ wx, Below w1.heap.size w1 wx → wx.heap[w.heap.size]? = some (.cells zrow 26 (0, 0)) := fun wx h => (h.block _ hsb).trans hra
  have HRO := Aside0.mk hrow
  have HB1 := Aside0.mk hb1
  have HSB := Aside0.mk hsb
  have hl := lst_length s
  obtain ⟨⟨a0, a1, a2, a3, a4, a5⟩, f0, f1, f2, f3, f4, f5⟩ := cells6 hra
  clear hrow hb1 hsb hra
  go_enter Tryz.func7, Tryz.ntmps7
  go_upto_region 1 with (fail)
  rw [← hw1]
  clear hw1
  by_cases hlong : 510 < s.size
  · have HP := Aside0.mk (show V.parse (lst s) = (none, 500) by unfold V.parse; rw [if_pos (by omega)])
    have t1 : decide ((510 : Int) < (s.size : Int)) = true := decide_eq_true (by omega)
    have t2 : decide (510 < s.size) = true := decide_eq_true (by omega)
    clear hl hlong
    go_wp2_with (fail)
    refine bodyPost_ret (v := .tuple #[.agg zrow, .int .i64 500]) ?_ rfl ⟨uni_none HP.out rfl, ?_⟩
    · exact results_ct (by rfl) _ _ w.heap.size 26 _ (0, 0) _ rfl (row6 (HRO.out w1 (Below.refl _ _))) Tryz.underlying26 rfl (by kernel_rfl) _ rfl
    · exact below6 HB1.out (Nat.le_refl _)
  have t1 : decide ((510 : Int) < (s.size : Int)) = false := decide_eq_false (by omega)
  have t2 : decide (510 < s.size) = false := decide_eq_false (by omega)
  have HS5 := Aside0.mk (show s.size ≤ 510 by omega)
  have HLL := Aside0.mk hl
  clear hl hs
  clear a0 a1 a2 a3 a4 a5 f0 f1 f2 f3 f4 f5
  go_upto_block 0 with (fail)
  go_cut [4] (fun v4 wc => wc = w1 ∧ Aside0 ((lst s).all okByte = true))
  case first =>
    go_wp2_with (fail)
    go_loopg [4] s.size (fun g v4 wr => ∃ n : Nat, n ≤ s.size ∧ g + n = s.size ∧ v4 = .int .i64 n ∧ wr = w1 ∧ Aside0 (((lst s).take n).all okByte = true))
    case atStart => exact ⟨0, by omega, by omega, rfl, rfl, ⟨by simp⟩⟩
    case round =>
      obtain ⟨n, hn, hg2, rfl, rfl, HN⟩ := hrel
      obtain ⟨wx, rfl⟩ : ∃ wz : World, wz = wr := ⟨_, rfl⟩
      obtain ⟨⟨a0, a1, a2, a3, a4, a5⟩, f0, f1, f2, f3, f4, f5⟩ := cells6 (HRO.out wx (Below.refl _ _))
      by_cases hlt : n < s.size
      · obtain ⟨d, hd⟩ : ∃ c, c = (lst s).getD n 0 := ⟨_, rfl⟩
        obtain ⟨y, hy⟩ : ∃ x : Int, x = (d.toNat : Int) := ⟨_, rfl⟩
        have hiy := fun w => index_str s n hlt d hd y hy w
        have hlt' : (n : Int) < (s.size : Int) := by omega
        have h0 : (0 : Int) ≤ (n : Int) := by omega
        have hstep := all_take (lst s) okByte n (by rw [lst_length]; exact hlt) d hd
        have hbad := all_false (lst s) okByte n (by rw [lst_length]; exact hlt) d hd
        have hok : okByte d = decide (32 ≤ y ∧ y ≤ 126) := by
          rw [hy]
          unfold okByte
          rw [Bool.eq_iff_iff, decide_eq_true_eq, decide_eq_true_eq, UInt8.le_iff_toNat_le, UInt8.le_iff_toNat_le]
          show 32 ≤ d.toNat ∧ d.toNat ≤ 126 ↔ _
          omega
        have HS := Aside0.mk hstep
        have HB := Aside0.mk hbad
        have HK := Aside0.mk hok
        have hnb : n ≤ 510 := by have := HS5.out; omega
        clear hd hy hstep hbad hok
        by_cases hg : 32 ≤ y ∧ y ≤ 126
        · have HOK := Aside0.mk (show okByte d = true by rw [HK.out]; exact decide_eq_true hg)
          have u1 : decide (y < 32) = false := decide_eq_false (by omega)
          have u2 : decide (126 < y) = false := decide_eq_false (by omega)
          clear hg
          go_wp2_with (fail)
          go_roundg (gk - 1)
          case measure => omega
          case rel => exact ⟨n + 1, by omega, by omega, by go_num, rfl, ⟨by rw [HS.out, HN.out, HOK.out]; rfl⟩⟩
        · have hbd : okByte d = false := by rw [HK.out]; exact decide_eq_false hg
          have HP := Aside0.mk (show V.parse (lst s) = (none, 500) by
            unfold V.parse
            rw [if_neg (by have := HLL.out; have := HS5.out; omega), HB.out hbd, if_neg (by decide)])
          have HW := Aside0.mk hg
          clear hbd
          by_cases hlo : y < 32
          · have u1 : decide (y < 32) = true := decide_eq_true hlo
            clear hg hlo
            go_wp2_with (fail)
            refine bodyPost_ret (v := .tuple #[.agg zrow, .int .i64 500]) ?_ rfl ⟨uni_none HP.out rfl, ?_⟩
            · exact results_ct (by rfl) _ _ w.heap.size 26 _ (0, 0) _ rfl (row6 (HRO.out wx (Below.refl _ _))) Tryz.underlying26 rfl (by kernel_rfl) _ rfl
            · exact below6 HB1.out (Nat.le_refl _)
          · have u1 : decide (y < 32) = false := decide_eq_false hlo
            have u2 : decide (126 < y) = true := decide_eq_true (by omega)
            clear hg hlo
            go_wp2_with (fail)
            refine bodyPost_ret (v := .tuple #[.agg zrow, .int .i64 500]) ?_ rfl ⟨uni_none HP.out rfl, ?_⟩
            · exact results_ct (by rfl) _ _ w.heap.size 26 _ (0, 0) _ rfl (row6 (HRO.out wx (Below.refl _ _))) Tryz.underlying26 rfl (by kernel_rfl) _ rfl
            · exact below6 HB1.out (Nat.le_refl _)
      · have hne : n = s.size := by omega
        have t3 : decide ((n : Int) < (s.size : Int)) = false := decide_eq_false (by omega)
        have t4 : decide (n < s.size) = false := decide_eq_false (by omega)
        have HOK := Aside0.mk (show (lst s).all okByte = true by
          have h := HN.out
          rw [hne, ← lst_length s, List.take_length] at h
          exact h)
        clear hne hlt
        go_wp2_with (fail)
        go_meet
        case rel => exact ⟨rfl, HOK⟩
  case rest =>
  obtain ⟨rfl, HOK⟩ := hcut
  obtain ⟨w1, rfl⟩ : ∃ wz : World, wz = wc := ⟨_, rfl⟩
  apply_assumption
  obtain ⟨wd, hwd⟩ : ∃ wd, wd = V.fold (V.first (lst s)) := ⟨_, rfl⟩
  obtain ⟨W, hW⟩ : ∃ W, W = str wd := ⟨_, rfl⟩
  have hfi := fun w => rfirst_any s w (by have := HS5.out; omega)
  rw [← hwd, ← hW] at hfi
  have HFI := Aside0.mk hfi
  obtain ⟨M, hM⟩ : ∃ M, M = decide (wd ∈ wordsL) := ⟨_, rfl⟩
  have ham : ∀ (A : Option Addr) (c : Nat) (w : World), Kd.C Kd.string w A wordsS.length wordsS → wordsS.length ≤ c → Calls Tryz.prog 25 #[.string W, .slice A wordsS.length c] w fun e w' => e = .returned (.bool M) ∧ Drawn0 w w' := by
    intro A c w hC hc
    have h := PVerbExact.wherryref11_among.calls 20 W A c wordsS _ w hC hc (ref_among W wordsS (by decide) 20 (by decide))
    rw [words_any, show lst W = wd from by rw [hW, lst_str], ← hM] at h
    exact h
  have HAM := Aside0.mk ham
  have HWD := Aside0.mk hwd
  have HWW := Aside0.mk hW
  have HM := Aside0.mk hM
  clear hfi ham hwd hW hM
  go_upto_region 9 with (first | (go_at_call 24; (with_reducible refine Calls.mono (HFI.out _) ?_); rintro e w2 ⟨rfl, h⟩; have H2 := Aside0.mk h; clear h))
  have hb3 : Below w2.heap.size w2 (w2.alloc (.cells #[.string ⟨#[101, 104, 108, 111]⟩, .string ⟨#[104, 101, 108, 111]⟩, .string ⟨#[109, 97, 105, 108]⟩, .string ⟨#[114, 99, 112, 116]⟩, .string ⟨#[100, 97, 116, 97]⟩, .string ⟨#[114, 115, 101, 116]⟩, .string ⟨#[113, 117, 105, 116]⟩, .string ⟨#[110, 111, 111, 112]⟩, .string ⟨#[118, 114, 102, 121]⟩, .string ⟨#[101, 116, 114, 110]⟩, .string ⟨#[97, 117, 116, 104]⟩, .string ⟨#[97, 116, 114, 110]⟩] 9)) := (Below.refl _ _).alloc (Nat.le_refl _) _
  have hC3 := C_strings wordsS w2.heap.size 9 (0, 0) (w2.alloc (.cells #[.string ⟨#[101, 104, 108, 111]⟩, .string ⟨#[104, 101, 108, 111]⟩, .string ⟨#[109, 97, 105, 108]⟩, .string ⟨#[114, 99, 112, 116]⟩, .string ⟨#[100, 97, 116, 97]⟩, .string ⟨#[114, 115, 101, 116]⟩, .string ⟨#[113, 117, 105, 116]⟩, .string ⟨#[110, 111, 111, 112]⟩, .string ⟨#[118, 114, 102, 121]⟩, .string ⟨#[101, 116, 114, 110]⟩, .string ⟨#[97, 117, 116, 104]⟩, .string ⟨#[97, 116, 114, 110]⟩] 9)) (heap_alloc_new _ _) (by decide)
  have hb13 : Below w1.heap.size w1 (w2.alloc (.cells #[.string ⟨#[101, 104, 108, 111]⟩, .string ⟨#[104, 101, 108, 111]⟩, .string ⟨#[109, 97, 105, 108]⟩, .string ⟨#[114, 99, 112, 116]⟩, .string ⟨#[100, 97, 116, 97]⟩, .string ⟨#[114, 115, 101, 116]⟩, .string ⟨#[113, 117, 105, 116]⟩, .string ⟨#[110, 111, 111, 112]⟩, .string ⟨#[118, 114, 102, 121]⟩, .string ⟨#[101, 116, 114, 110]⟩, .string ⟨#[97, 117, 116, 104]⟩, .string ⟨#[97, 116, 114, 110]⟩] 9)) := H2.out.trans (hb3.mono H2.out.size)
  have hamw : Calls Tryz.prog 25 #[.string W, .slice (some ⟨w2.heap.size, 0, none⟩) 12 12] (w2.alloc (.cells #[.string ⟨#[101, 104, 108, 111]⟩, .string ⟨#[104, 101, 108, 111]⟩, .string ⟨#[109, 97, 105, 108]⟩, .string ⟨#[114, 99, 112, 116]⟩, .string ⟨#[100, 97, 116, 97]⟩, .string ⟨#[114, 115, 101, 116]⟩, .string ⟨#[113, 117, 105, 116]⟩, .string ⟨#[110, 111, 111, 112]⟩, .string ⟨#[118, 114, 102, 121]⟩, .string ⟨#[101, 116, 114, 110]⟩, .string ⟨#[97, 117, 116, 104]⟩, .string ⟨#[97, 116, 114, 110]⟩] 9)) fun e w' => e = .returned (.bool M) ∧ Drawn0 (w2.alloc (.cells #[.string ⟨#[101, 104, 108, 111]⟩, .string ⟨#[104, 101, 108, 111]⟩, .string ⟨#[109, 97, 105, 108]⟩, .string ⟨#[114, 99, 112, 116]⟩, .string ⟨#[100, 97, 116, 97]⟩, .string ⟨#[114, 115, 101, 116]⟩, .string ⟨#[113, 117, 105, 116]⟩, .string ⟨#[110, 111, 111, 112]⟩, .string ⟨#[118, 114, 102, 121]⟩, .string ⟨#[101, 116, 114, 110]⟩, .string ⟨#[97, 117, 116, 104]⟩, .string ⟨#[97, 116, 114, 110]⟩] 9)) w' := HAM.out _ 12 _ hC3 (by decide)
  have HAMW := Aside0.mk hamw
  have HB13 := Aside0.mk hb13
  clear hb3 hC3 hb13 hamw
  cases hMM : M with
  | false =>
    have HP := Aside0.mk (show V.parse (lst s) = (none, 500) by
      have hm : ¬ wd ∈ wordsL := of_decide_eq_false (by rw [← HM.out]; exact hMM)
      unfold V.parse V.known
      rw [if_neg (by have := HLL.out; have := HS5.out; omega), HOK.out, if_pos rfl, ← HWD.out, if_pos (by rw [decide_eq_false hm]; simp)])
    have HMM := Aside0.mk hMM
    clear hMM
    go_wp2_with (first | (go_at_call 25; (with_reducible refine Calls.mono HAMW.out ?_); rintro e w4 ⟨rfl, h⟩; have H4 := Aside0.mk (HB13.out.trans ((drawn_below h).mono HB13.out.size)); clear h; obtain ⟨⟨a0, a1, a2, a3, a4, a5⟩, f0, f1, f2, f3, f4, f5⟩ := cells6 (HRO.out w4 H4.out); rw [HMM.out]))
    refine bodyPost_ret (v := .tuple #[.agg zrow, .int .i64 500]) ?_ rfl ⟨uni_none HP.out rfl, ?_⟩
    · exact results_ct (by rfl) _ _ w.heap.size 26 _ (0, 0) _ rfl (row6 (HRO.out w4 H4.out)) Tryz.underlying26 rfl (by kernel_rfl) _ rfl
    · exact below6 (HB1.out.trans (H4.out.mono HB1.out.size)) (Nat.le_refl _)
  | true =>
  have hm : wd ∈ wordsL := of_decide_eq_true (by rw [← HM.out]; exact hMM)
  have HMM := Aside0.mk hMM
  obtain ⟨t, ht1, ht2, ht3⟩ := parse_word (by have := HLL.out; have := HS5.out; omega) HOK.out (by rw [← HWD.out]; exact hm)
  rw [← HWD.out] at ht1
  have hW4 : W.size = 4 := by rw [HWW.out, str_size]; exact (word_len _ hm).1
  have HHM := Aside0.mk hm
  have HT1 := Aside0.mk ht1
  have HT2 := Aside0.mk ht2
  have HT3 := Aside0.mk ht3
  clear hm ht1 ht2 ht3 hMM
  go_upto_region 11 with (first | (go_at_call 25; (with_reducible refine Calls.mono HAMW.out ?_); rintro e w4 ⟨rfl, h⟩; have H4 := Aside0.mk (HB13.out.trans ((drawn_below h).mono HB13.out.size)); clear h; rw [HMM.out]))
  obtain ⟨w4', hw4⟩ : ∃ w4' : World, w4' = w4 := ⟨_, rfl⟩
  have HB4 := Aside0.mk (show Below w1.heap.size w1 w4 from H4.out)
  clear hw4
  cases ht : t with
  | none =>
    have hs4 : s.size = 4 := by
      have h := HT2.out
      have := HLL.out
      rw [ht] at h
      simp [V.tl] at h
      omega
    have HT := Aside0.mk ht
    have HZ4 := Aside0.mk hs4
    have u1 : ((4 : Int) == (s.size : Int)) = true := by rw [hs4]; rfl
    have u2 : decide ((4 : Int) = (s.size : Int)) = true := by rw [hs4]; rfl
    have u3 : (4 == s.size) = true := by rw [hs4]; rfl
    have u4 : decide (4 = s.size) = true := by rw [hs4]; rfl
    clear ht
    go_upto_region 15 with (fail)
    have hmem : wd = wEhlo ∨ wd = wHelo ∨ wd = wMail ∨ wd = wRcpt ∨ wd = wData ∨ wd = wRset ∨ wd = wQuit ∨ wd = wNoop ∨ wd = wVrfy ∨ wd = wEtrn ∨ wd = wAuth ∨ wd = wAtrn := by
      have h := HHM.out
      rw [words_eq] at h
      simpa using h
    rcases hmem with hword | hword | hword | hword | hword | hword | hword | hword | hword | hword | hword | hword
    · have qehlo : (W.toList == [101, 104, 108, 111]) = true := by rw [eq_const W _ [101, 104, 108, 111] rfl, HWW.out, lst_str, hword]; decide
      have qhelo : (W.toList == [104, 101, 108, 111]) = false := by rw [eq_const W _ [104, 101, 108, 111] rfl, HWW.out, lst_str, hword]; decide
      have qmail : (W.toList == [109, 97, 105, 108]) = false := by rw [eq_const W _ [109, 97, 105, 108] rfl, HWW.out, lst_str, hword]; decide
      have qrcpt : (W.toList == [114, 99, 112, 116]) = false := by rw [eq_const W _ [114, 99, 112, 116] rfl, HWW.out, lst_str, hword]; decide
      have qdata : (W.toList == [100, 97, 116, 97]) = false := by rw [eq_const W _ [100, 97, 116, 97] rfl, HWW.out, lst_str, hword]; decide
      have qrset : (W.toList == [114, 115, 101, 116]) = false := by rw [eq_const W _ [114, 115, 101, 116] rfl, HWW.out, lst_str, hword]; decide
      have qquit : (W.toList == [113, 117, 105, 116]) = false := by rw [eq_const W _ [113, 117, 105, 116] rfl, HWW.out, lst_str, hword]; decide
      have qnoop : (W.toList == [110, 111, 111, 112]) = false := by rw [eq_const W _ [110, 111, 111, 112] rfl, HWW.out, lst_str, hword]; decide
      have qvrfy : (W.toList == [118, 114, 102, 121]) = false := by rw [eq_const W _ [118, 114, 102, 121] rfl, HWW.out, lst_str, hword]; decide
      have qetrn : (W.toList == [101, 116, 114, 110]) = false := by rw [eq_const W _ [101, 116, 114, 110] rfl, HWW.out, lst_str, hword]; decide
      have qauth : (W.toList == [97, 117, 116, 104]) = false := by rw [eq_const W _ [97, 117, 116, 104] rfl, HWW.out, lst_str, hword]; decide
      have qatrn : (W.toList == [97, 116, 114, 110]) = false := by rw [eq_const W _ [97, 116, 114, 110] rfl, HWW.out, lst_str, hword]; decide
      have HP := Aside0.mk (show V.parse (lst s) = (none, 501) by rw [HT1.out, HT.out, hword, told_Ehlo]; rfl)
      clear hword
      obtain ⟨⟨a0, a1, a2, a3, a4, a5⟩, f0, f1, f2, f3, f4, f5⟩ := cells6 (HRO.out w4 HB4.out)
      go_wp2_with (fail)
      refine bodyPost_ret (v := .tuple #[.agg zrow, .int .i64 501]) ?_ rfl ⟨uni_none HP.out rfl, ?_⟩
      · exact results_ct (by rfl) _ _ w.heap.size 26 _ (0, 0) _ rfl (row6 (HRO.out w4 HB4.out)) Tryz.underlying26 rfl (by kernel_rfl) _ rfl
      · exact below6 (HB1.out.trans (HB4.out.mono HB1.out.size)) (Nat.le_refl _)
    · have qehlo : (W.toList == [101, 104, 108, 111]) = false := by rw [eq_const W _ [101, 104, 108, 111] rfl, HWW.out, lst_str, hword]; decide
      have qhelo : (W.toList == [104, 101, 108, 111]) = true := by rw [eq_const W _ [104, 101, 108, 111] rfl, HWW.out, lst_str, hword]; decide
      have qmail : (W.toList == [109, 97, 105, 108]) = false := by rw [eq_const W _ [109, 97, 105, 108] rfl, HWW.out, lst_str, hword]; decide
      have qrcpt : (W.toList == [114, 99, 112, 116]) = false := by rw [eq_const W _ [114, 99, 112, 116] rfl, HWW.out, lst_str, hword]; decide
      have qdata : (W.toList == [100, 97, 116, 97]) = false := by rw [eq_const W _ [100, 97, 116, 97] rfl, HWW.out, lst_str, hword]; decide
      have qrset : (W.toList == [114, 115, 101, 116]) = false := by rw [eq_const W _ [114, 115, 101, 116] rfl, HWW.out, lst_str, hword]; decide
      have qquit : (W.toList == [113, 117, 105, 116]) = false := by rw [eq_const W _ [113, 117, 105, 116] rfl, HWW.out, lst_str, hword]; decide
      have qnoop : (W.toList == [110, 111, 111, 112]) = false := by rw [eq_const W _ [110, 111, 111, 112] rfl, HWW.out, lst_str, hword]; decide
      have qvrfy : (W.toList == [118, 114, 102, 121]) = false := by rw [eq_const W _ [118, 114, 102, 121] rfl, HWW.out, lst_str, hword]; decide
      have qetrn : (W.toList == [101, 116, 114, 110]) = false := by rw [eq_const W _ [101, 116, 114, 110] rfl, HWW.out, lst_str, hword]; decide
      have qauth : (W.toList == [97, 117, 116, 104]) = false := by rw [eq_const W _ [97, 117, 116, 104] rfl, HWW.out, lst_str, hword]; decide
      have qatrn : (W.toList == [97, 116, 114, 110]) = false := by rw [eq_const W _ [97, 116, 114, 110] rfl, HWW.out, lst_str, hword]; decide
      have HP := Aside0.mk (show V.parse (lst s) = (none, 501) by rw [HT1.out, HT.out, hword, told_Helo]; rfl)
      clear hword
      obtain ⟨⟨a0, a1, a2, a3, a4, a5⟩, f0, f1, f2, f3, f4, f5⟩ := cells6 (HRO.out w4 HB4.out)
      go_wp2_with (fail)
      refine bodyPost_ret (v := .tuple #[.agg zrow, .int .i64 501]) ?_ rfl ⟨uni_none HP.out rfl, ?_⟩
      · exact results_ct (by rfl) _ _ w.heap.size 26 _ (0, 0) _ rfl (row6 (HRO.out w4 HB4.out)) Tryz.underlying26 rfl (by kernel_rfl) _ rfl
      · exact below6 (HB1.out.trans (HB4.out.mono HB1.out.size)) (Nat.le_refl _)
    · have qehlo : (W.toList == [101, 104, 108, 111]) = false := by rw [eq_const W _ [101, 104, 108, 111] rfl, HWW.out, lst_str, hword]; decide
      have qhelo : (W.toList == [104, 101, 108, 111]) = false := by rw [eq_const W _ [104, 101, 108, 111] rfl, HWW.out, lst_str, hword]; decide
      have qmail : (W.toList == [109, 97, 105, 108]) = true := by rw [eq_const W _ [109, 97, 105, 108] rfl, HWW.out, lst_str, hword]; decide
      have qrcpt : (W.toList == [114, 99, 112, 116]) = false := by rw [eq_const W _ [114, 99, 112, 116] rfl, HWW.out, lst_str, hword]; decide
      have qdata : (W.toList == [100, 97, 116, 97]) = false := by rw [eq_const W _ [100, 97, 116, 97] rfl, HWW.out, lst_str, hword]; decide
      have qrset : (W.toList == [114, 115, 101, 116]) = false := by rw [eq_const W _ [114, 115, 101, 116] rfl, HWW.out, lst_str, hword]; decide
      have qquit : (W.toList == [113, 117, 105, 116]) = false := by rw [eq_const W _ [113, 117, 105, 116] rfl, HWW.out, lst_str, hword]; decide
      have qnoop : (W.toList == [110, 111, 111, 112]) = false := by rw [eq_const W _ [110, 111, 111, 112] rfl, HWW.out, lst_str, hword]; decide
      have qvrfy : (W.toList == [118, 114, 102, 121]) = false := by rw [eq_const W _ [118, 114, 102, 121] rfl, HWW.out, lst_str, hword]; decide
      have qetrn : (W.toList == [101, 116, 114, 110]) = false := by rw [eq_const W _ [101, 116, 114, 110] rfl, HWW.out, lst_str, hword]; decide
      have qauth : (W.toList == [97, 117, 116, 104]) = false := by rw [eq_const W _ [97, 117, 116, 104] rfl, HWW.out, lst_str, hword]; decide
      have qatrn : (W.toList == [97, 116, 114, 110]) = false := by rw [eq_const W _ [97, 116, 114, 110] rfl, HWW.out, lst_str, hword]; decide
      have HP := Aside0.mk (show V.parse (lst s) = (none, 501) by rw [HT1.out, HT.out, hword, told_Mail]; rfl)
      clear hword
      have HBG := Aside0.mk (fun w => rbegins_any ⟨#[]⟩ ⟨#[102, 114, 111, 109, 58]⟩ w (by decide) (by decide))
      go_wp2_with (first | (go_at_call 27; (with_reducible refine Calls.mono (HBG.out _) ?_); rintro e w5 ⟨rfl, h⟩; have H5 := Aside0.mk (HB4.out.trans (h.mono HB4.out.size)); clear h; rw [show V.after (lst ⟨#[]⟩) (lst ⟨#[102, 114, 111, 109, 58]⟩) = none from by decide]; simp only [begRes]; obtain ⟨⟨a0, a1, a2, a3, a4, a5⟩, f0, f1, f2, f3, f4, f5⟩ := cells6 (HRO.out w5 H5.out)))
      refine bodyPost_ret (v := .tuple #[.agg zrow, .int .i64 501]) ?_ rfl ⟨uni_none HP.out rfl, ?_⟩
      · exact results_ct (by rfl) _ _ w.heap.size 26 _ (0, 0) _ rfl (row6 (HRO.out w5 H5.out)) Tryz.underlying26 rfl (by kernel_rfl) _ rfl
      · exact below6 (HB1.out.trans (H5.out.mono HB1.out.size)) (Nat.le_refl _)
    · have qehlo : (W.toList == [101, 104, 108, 111]) = false := by rw [eq_const W _ [101, 104, 108, 111] rfl, HWW.out, lst_str, hword]; decide
      have qhelo : (W.toList == [104, 101, 108, 111]) = false := by rw [eq_const W _ [104, 101, 108, 111] rfl, HWW.out, lst_str, hword]; decide
      have qmail : (W.toList == [109, 97, 105, 108]) = false := by rw [eq_const W _ [109, 97, 105, 108] rfl, HWW.out, lst_str, hword]; decide
      have qrcpt : (W.toList == [114, 99, 112, 116]) = true := by rw [eq_const W _ [114, 99, 112, 116] rfl, HWW.out, lst_str, hword]; decide
      have qdata : (W.toList == [100, 97, 116, 97]) = false := by rw [eq_const W _ [100, 97, 116, 97] rfl, HWW.out, lst_str, hword]; decide
      have qrset : (W.toList == [114, 115, 101, 116]) = false := by rw [eq_const W _ [114, 115, 101, 116] rfl, HWW.out, lst_str, hword]; decide
      have qquit : (W.toList == [113, 117, 105, 116]) = false := by rw [eq_const W _ [113, 117, 105, 116] rfl, HWW.out, lst_str, hword]; decide
      have qnoop : (W.toList == [110, 111, 111, 112]) = false := by rw [eq_const W _ [110, 111, 111, 112] rfl, HWW.out, lst_str, hword]; decide
      have qvrfy : (W.toList == [118, 114, 102, 121]) = false := by rw [eq_const W _ [118, 114, 102, 121] rfl, HWW.out, lst_str, hword]; decide
      have qetrn : (W.toList == [101, 116, 114, 110]) = false := by rw [eq_const W _ [101, 116, 114, 110] rfl, HWW.out, lst_str, hword]; decide
      have qauth : (W.toList == [97, 117, 116, 104]) = false := by rw [eq_const W _ [97, 117, 116, 104] rfl, HWW.out, lst_str, hword]; decide
      have qatrn : (W.toList == [97, 116, 114, 110]) = false := by rw [eq_const W _ [97, 116, 114, 110] rfl, HWW.out, lst_str, hword]; decide
      have HP := Aside0.mk (show V.parse (lst s) = (none, 501) by rw [HT1.out, HT.out, hword, told_Rcpt]; rfl)
      clear hword
      have HBG := Aside0.mk (fun w => rbegins_any ⟨#[]⟩ ⟨#[116, 111, 58]⟩ w (by decide) (by decide))
      go_wp2_with (first | (go_at_call 27; (with_reducible refine Calls.mono (HBG.out _) ?_); rintro e w5 ⟨rfl, h⟩; have H5 := Aside0.mk (HB4.out.trans (h.mono HB4.out.size)); clear h; rw [show V.after (lst ⟨#[]⟩) (lst ⟨#[116, 111, 58]⟩) = none from by decide]; simp only [begRes]; obtain ⟨⟨a0, a1, a2, a3, a4, a5⟩, f0, f1, f2, f3, f4, f5⟩ := cells6 (HRO.out w5 H5.out)))
      refine bodyPost_ret (v := .tuple #[.agg zrow, .int .i64 501]) ?_ rfl ⟨uni_none HP.out rfl, ?_⟩
      · exact results_ct (by rfl) _ _ w.heap.size 26 _ (0, 0) _ rfl (row6 (HRO.out w5 H5.out)) Tryz.underlying26 rfl (by kernel_rfl) _ rfl
      · exact below6 (HB1.out.trans (H5.out.mono HB1.out.size)) (Nat.le_refl _)
    · have qehlo : (W.toList == [101, 104, 108, 111]) = false := by rw [eq_const W _ [101, 104, 108, 111] rfl, HWW.out, lst_str, hword]; decide
      have qhelo : (W.toList == [104, 101, 108, 111]) = false := by rw [eq_const W _ [104, 101, 108, 111] rfl, HWW.out, lst_str, hword]; decide
      have qmail : (W.toList == [109, 97, 105, 108]) = false := by rw [eq_const W _ [109, 97, 105, 108] rfl, HWW.out, lst_str, hword]; decide
      have qrcpt : (W.toList == [114, 99, 112, 116]) = false := by rw [eq_const W _ [114, 99, 112, 116] rfl, HWW.out, lst_str, hword]; decide
      have qdata : (W.toList == [100, 97, 116, 97]) = true := by rw [eq_const W _ [100, 97, 116, 97] rfl, HWW.out, lst_str, hword]; decide
      have qrset : (W.toList == [114, 115, 101, 116]) = false := by rw [eq_const W _ [114, 115, 101, 116] rfl, HWW.out, lst_str, hword]; decide
      have qquit : (W.toList == [113, 117, 105, 116]) = false := by rw [eq_const W _ [113, 117, 105, 116] rfl, HWW.out, lst_str, hword]; decide
      have qnoop : (W.toList == [110, 111, 111, 112]) = false := by rw [eq_const W _ [110, 111, 111, 112] rfl, HWW.out, lst_str, hword]; decide
      have qvrfy : (W.toList == [118, 114, 102, 121]) = false := by rw [eq_const W _ [118, 114, 102, 121] rfl, HWW.out, lst_str, hword]; decide
      have qetrn : (W.toList == [101, 116, 114, 110]) = false := by rw [eq_const W _ [101, 116, 114, 110] rfl, HWW.out, lst_str, hword]; decide
      have qauth : (W.toList == [97, 117, 116, 104]) = false := by rw [eq_const W _ [97, 117, 116, 104] rfl, HWW.out, lst_str, hword]; decide
      have qatrn : (W.toList == [97, 116, 114, 110]) = false := by rw [eq_const W _ [97, 116, 114, 110] rfl, HWW.out, lst_str, hword]; decide
      have HP := Aside0.mk (show V.parse (lst s) = (some ⟨4, [], V.noPath, []⟩, 0) by rw [HT1.out, HT.out, hword, told_Data]; rfl)
      clear hword
      obtain ⟨⟨a0, a1, a2, a3, a4, a5⟩, f0, f1, f2, f3, f4, f5⟩ := cells6 (HRO.out w4 HB4.out)
      go_wp2_with (fail)
      refine bodyPost_ret (v := .tuple #[.agg #[.int .i64 4, .string { data := #[] }, .bool false, .string { data := #[] }, .string { data := #[] }, .slice none 0 0], .int .i64 0]) ?_ rfl ⟨uni_some HP.out rfl rfl, ?_⟩
      · exact results_ct (by rfl) _ _ w.heap.size 26 _ (0, 0) _ rfl (row6 (HRO.out w4 HB4.out)) Tryz.underlying26 rfl (by kernel_rfl) _ rfl
      · exact below6 (HB1.out.trans (HB4.out.mono HB1.out.size)) (Nat.le_refl _)
    · have qehlo : (W.toList == [101, 104, 108, 111]) = false := by rw [eq_const W _ [101, 104, 108, 111] rfl, HWW.out, lst_str, hword]; decide
      have qhelo : (W.toList == [104, 101, 108, 111]) = false := by rw [eq_const W _ [104, 101, 108, 111] rfl, HWW.out, lst_str, hword]; decide
      have qmail : (W.toList == [109, 97, 105, 108]) = false := by rw [eq_const W _ [109, 97, 105, 108] rfl, HWW.out, lst_str, hword]; decide
      have qrcpt : (W.toList == [114, 99, 112, 116]) = false := by rw [eq_const W _ [114, 99, 112, 116] rfl, HWW.out, lst_str, hword]; decide
      have qdata : (W.toList == [100, 97, 116, 97]) = false := by rw [eq_const W _ [100, 97, 116, 97] rfl, HWW.out, lst_str, hword]; decide
      have qrset : (W.toList == [114, 115, 101, 116]) = true := by rw [eq_const W _ [114, 115, 101, 116] rfl, HWW.out, lst_str, hword]; decide
      have qquit : (W.toList == [113, 117, 105, 116]) = false := by rw [eq_const W _ [113, 117, 105, 116] rfl, HWW.out, lst_str, hword]; decide
      have qnoop : (W.toList == [110, 111, 111, 112]) = false := by rw [eq_const W _ [110, 111, 111, 112] rfl, HWW.out, lst_str, hword]; decide
      have qvrfy : (W.toList == [118, 114, 102, 121]) = false := by rw [eq_const W _ [118, 114, 102, 121] rfl, HWW.out, lst_str, hword]; decide
      have qetrn : (W.toList == [101, 116, 114, 110]) = false := by rw [eq_const W _ [101, 116, 114, 110] rfl, HWW.out, lst_str, hword]; decide
      have qauth : (W.toList == [97, 117, 116, 104]) = false := by rw [eq_const W _ [97, 117, 116, 104] rfl, HWW.out, lst_str, hword]; decide
      have qatrn : (W.toList == [97, 116, 114, 110]) = false := by rw [eq_const W _ [97, 116, 114, 110] rfl, HWW.out, lst_str, hword]; decide
      have HP := Aside0.mk (show V.parse (lst s) = (some ⟨5, [], V.noPath, []⟩, 0) by rw [HT1.out, HT.out, hword, told_Rset]; rfl)
      clear hword
      obtain ⟨⟨a0, a1, a2, a3, a4, a5⟩, f0, f1, f2, f3, f4, f5⟩ := cells6 (HRO.out w4 HB4.out)
      go_wp2_with (fail)
      refine bodyPost_ret (v := .tuple #[.agg #[.int .i64 5, .string { data := #[] }, .bool false, .string { data := #[] }, .string { data := #[] }, .slice none 0 0], .int .i64 0]) ?_ rfl ⟨uni_some HP.out rfl rfl, ?_⟩
      · exact results_ct (by rfl) _ _ w.heap.size 26 _ (0, 0) _ rfl (row6 (HRO.out w4 HB4.out)) Tryz.underlying26 rfl (by kernel_rfl) _ rfl
      · exact below6 (HB1.out.trans (HB4.out.mono HB1.out.size)) (Nat.le_refl _)
    · have qehlo : (W.toList == [101, 104, 108, 111]) = false := by rw [eq_const W _ [101, 104, 108, 111] rfl, HWW.out, lst_str, hword]; decide
      have qhelo : (W.toList == [104, 101, 108, 111]) = false := by rw [eq_const W _ [104, 101, 108, 111] rfl, HWW.out, lst_str, hword]; decide
      have qmail : (W.toList == [109, 97, 105, 108]) = false := by rw [eq_const W _ [109, 97, 105, 108] rfl, HWW.out, lst_str, hword]; decide
      have qrcpt : (W.toList == [114, 99, 112, 116]) = false := by rw [eq_const W _ [114, 99, 112, 116] rfl, HWW.out, lst_str, hword]; decide
      have qdata : (W.toList == [100, 97, 116, 97]) = false := by rw [eq_const W _ [100, 97, 116, 97] rfl, HWW.out, lst_str, hword]; decide
      have qrset : (W.toList == [114, 115, 101, 116]) = false := by rw [eq_const W _ [114, 115, 101, 116] rfl, HWW.out, lst_str, hword]; decide
      have qquit : (W.toList == [113, 117, 105, 116]) = true := by rw [eq_const W _ [113, 117, 105, 116] rfl, HWW.out, lst_str, hword]; decide
      have qnoop : (W.toList == [110, 111, 111, 112]) = false := by rw [eq_const W _ [110, 111, 111, 112] rfl, HWW.out, lst_str, hword]; decide
      have qvrfy : (W.toList == [118, 114, 102, 121]) = false := by rw [eq_const W _ [118, 114, 102, 121] rfl, HWW.out, lst_str, hword]; decide
      have qetrn : (W.toList == [101, 116, 114, 110]) = false := by rw [eq_const W _ [101, 116, 114, 110] rfl, HWW.out, lst_str, hword]; decide
      have qauth : (W.toList == [97, 117, 116, 104]) = false := by rw [eq_const W _ [97, 117, 116, 104] rfl, HWW.out, lst_str, hword]; decide
      have qatrn : (W.toList == [97, 116, 114, 110]) = false := by rw [eq_const W _ [97, 116, 114, 110] rfl, HWW.out, lst_str, hword]; decide
      have HP := Aside0.mk (show V.parse (lst s) = (some ⟨8, [], V.noPath, []⟩, 0) by rw [HT1.out, HT.out, hword, told_Quit]; rfl)
      clear hword
      obtain ⟨⟨a0, a1, a2, a3, a4, a5⟩, f0, f1, f2, f3, f4, f5⟩ := cells6 (HRO.out w4 HB4.out)
      go_wp2_with (fail)
      refine bodyPost_ret (v := .tuple #[.agg #[.int .i64 8, .string { data := #[] }, .bool false, .string { data := #[] }, .string { data := #[] }, .slice none 0 0], .int .i64 0]) ?_ rfl ⟨uni_some HP.out rfl rfl, ?_⟩
      · exact results_ct (by rfl) _ _ w.heap.size 26 _ (0, 0) _ rfl (row6 (HRO.out w4 HB4.out)) Tryz.underlying26 rfl (by kernel_rfl) _ rfl
      · exact below6 (HB1.out.trans (HB4.out.mono HB1.out.size)) (Nat.le_refl _)
    · have qehlo : (W.toList == [101, 104, 108, 111]) = false := by rw [eq_const W _ [101, 104, 108, 111] rfl, HWW.out, lst_str, hword]; decide
      have qhelo : (W.toList == [104, 101, 108, 111]) = false := by rw [eq_const W _ [104, 101, 108, 111] rfl, HWW.out, lst_str, hword]; decide
      have qmail : (W.toList == [109, 97, 105, 108]) = false := by rw [eq_const W _ [109, 97, 105, 108] rfl, HWW.out, lst_str, hword]; decide
      have qrcpt : (W.toList == [114, 99, 112, 116]) = false := by rw [eq_const W _ [114, 99, 112, 116] rfl, HWW.out, lst_str, hword]; decide
      have qdata : (W.toList == [100, 97, 116, 97]) = false := by rw [eq_const W _ [100, 97, 116, 97] rfl, HWW.out, lst_str, hword]; decide
      have qrset : (W.toList == [114, 115, 101, 116]) = false := by rw [eq_const W _ [114, 115, 101, 116] rfl, HWW.out, lst_str, hword]; decide
      have qquit : (W.toList == [113, 117, 105, 116]) = false := by rw [eq_const W _ [113, 117, 105, 116] rfl, HWW.out, lst_str, hword]; decide
      have qnoop : (W.toList == [110, 111, 111, 112]) = true := by rw [eq_const W _ [110, 111, 111, 112] rfl, HWW.out, lst_str, hword]; decide
      have qvrfy : (W.toList == [118, 114, 102, 121]) = false := by rw [eq_const W _ [118, 114, 102, 121] rfl, HWW.out, lst_str, hword]; decide
      have qetrn : (W.toList == [101, 116, 114, 110]) = false := by rw [eq_const W _ [101, 116, 114, 110] rfl, HWW.out, lst_str, hword]; decide
      have qauth : (W.toList == [97, 117, 116, 104]) = false := by rw [eq_const W _ [97, 117, 116, 104] rfl, HWW.out, lst_str, hword]; decide
      have qatrn : (W.toList == [97, 116, 114, 110]) = false := by rw [eq_const W _ [97, 116, 114, 110] rfl, HWW.out, lst_str, hword]; decide
      have HP := Aside0.mk (show V.parse (lst s) = (some ⟨7, [], V.noPath, []⟩, 0) by rw [HT1.out, HT.out, hword, told_Noop])
      clear hword
      obtain ⟨⟨a0, a1, a2, a3, a4, a5⟩, f0, f1, f2, f3, f4, f5⟩ := cells6 (HRO.out w4 HB4.out)
      go_wp2_with (fail)
      refine bodyPost_ret (v := .tuple #[.agg #[.int .i64 7, .string { data := #[] }, .bool false, .string { data := #[] }, .string { data := #[] }, .slice none 0 0], .int .i64 0]) ?_ rfl ⟨uni_some HP.out rfl rfl, ?_⟩
      · exact results_ct (by rfl) _ _ w.heap.size 26 _ (0, 0) _ rfl (row6 (HRO.out w4 HB4.out)) Tryz.underlying26 rfl (by kernel_rfl) _ rfl
      · exact below6 (HB1.out.trans (HB4.out.mono HB1.out.size)) (Nat.le_refl _)
    · have qehlo : (W.toList == [101, 104, 108, 111]) = false := by rw [eq_const W _ [101, 104, 108, 111] rfl, HWW.out, lst_str, hword]; decide
      have qhelo : (W.toList == [104, 101, 108, 111]) = false := by rw [eq_const W _ [104, 101, 108, 111] rfl, HWW.out, lst_str, hword]; decide
      have qmail : (W.toList == [109, 97, 105, 108]) = false := by rw [eq_const W _ [109, 97, 105, 108] rfl, HWW.out, lst_str, hword]; decide
      have qrcpt : (W.toList == [114, 99, 112, 116]) = false := by rw [eq_const W _ [114, 99, 112, 116] rfl, HWW.out, lst_str, hword]; decide
      have qdata : (W.toList == [100, 97, 116, 97]) = false := by rw [eq_const W _ [100, 97, 116, 97] rfl, HWW.out, lst_str, hword]; decide
      have qrset : (W.toList == [114, 115, 101, 116]) = false := by rw [eq_const W _ [114, 115, 101, 116] rfl, HWW.out, lst_str, hword]; decide
      have qquit : (W.toList == [113, 117, 105, 116]) = false := by rw [eq_const W _ [113, 117, 105, 116] rfl, HWW.out, lst_str, hword]; decide
      have qnoop : (W.toList == [110, 111, 111, 112]) = false := by rw [eq_const W _ [110, 111, 111, 112] rfl, HWW.out, lst_str, hword]; decide
      have qvrfy : (W.toList == [118, 114, 102, 121]) = true := by rw [eq_const W _ [118, 114, 102, 121] rfl, HWW.out, lst_str, hword]; decide
      have qetrn : (W.toList == [101, 116, 114, 110]) = false := by rw [eq_const W _ [101, 116, 114, 110] rfl, HWW.out, lst_str, hword]; decide
      have qauth : (W.toList == [97, 117, 116, 104]) = false := by rw [eq_const W _ [97, 117, 116, 104] rfl, HWW.out, lst_str, hword]; decide
      have qatrn : (W.toList == [97, 116, 114, 110]) = false := by rw [eq_const W _ [97, 116, 114, 110] rfl, HWW.out, lst_str, hword]; decide
      have HP := Aside0.mk (show V.parse (lst s) = (none, 501) by rw [HT1.out, HT.out, hword, told_Vrfy]; rfl)
      clear hword
      obtain ⟨⟨a0, a1, a2, a3, a4, a5⟩, f0, f1, f2, f3, f4, f5⟩ := cells6 (HRO.out w4 HB4.out)
      go_wp2_with (fail)
      refine bodyPost_ret (v := .tuple #[.agg zrow, .int .i64 501]) ?_ rfl ⟨uni_none HP.out rfl, ?_⟩
      · exact results_ct (by rfl) _ _ w.heap.size 26 _ (0, 0) _ rfl (row6 (HRO.out w4 HB4.out)) Tryz.underlying26 rfl (by kernel_rfl) _ rfl
      · exact below6 (HB1.out.trans (HB4.out.mono HB1.out.size)) (Nat.le_refl _)
    · have qehlo : (W.toList == [101, 104, 108, 111]) = false := by rw [eq_const W _ [101, 104, 108, 111] rfl, HWW.out, lst_str, hword]; decide
      have qhelo : (W.toList == [104, 101, 108, 111]) = false := by rw [eq_const W _ [104, 101, 108, 111] rfl, HWW.out, lst_str, hword]; decide
      have qmail : (W.toList == [109, 97, 105, 108]) = false := by rw [eq_const W _ [109, 97, 105, 108] rfl, HWW.out, lst_str, hword]; decide
      have qrcpt : (W.toList == [114, 99, 112, 116]) = false := by rw [eq_const W _ [114, 99, 112, 116] rfl, HWW.out, lst_str, hword]; decide
      have qdata : (W.toList == [100, 97, 116, 97]) = false := by rw [eq_const W _ [100, 97, 116, 97] rfl, HWW.out, lst_str, hword]; decide
      have qrset : (W.toList == [114, 115, 101, 116]) = false := by rw [eq_const W _ [114, 115, 101, 116] rfl, HWW.out, lst_str, hword]; decide
      have qquit : (W.toList == [113, 117, 105, 116]) = false := by rw [eq_const W _ [113, 117, 105, 116] rfl, HWW.out, lst_str, hword]; decide
      have qnoop : (W.toList == [110, 111, 111, 112]) = false := by rw [eq_const W _ [110, 111, 111, 112] rfl, HWW.out, lst_str, hword]; decide
      have qvrfy : (W.toList == [118, 114, 102, 121]) = false := by rw [eq_const W _ [118, 114, 102, 121] rfl, HWW.out, lst_str, hword]; decide
      have qetrn : (W.toList == [101, 116, 114, 110]) = true := by rw [eq_const W _ [101, 116, 114, 110] rfl, HWW.out, lst_str, hword]; decide
      have qauth : (W.toList == [97, 117, 116, 104]) = false := by rw [eq_const W _ [97, 117, 116, 104] rfl, HWW.out, lst_str, hword]; decide
      have qatrn : (W.toList == [97, 116, 114, 110]) = false := by rw [eq_const W _ [97, 116, 114, 110] rfl, HWW.out, lst_str, hword]; decide
      have HP := Aside0.mk (show V.parse (lst s) = (none, 501) by rw [HT1.out, HT.out, hword, told_Etrn]; rfl)
      clear hword
      obtain ⟨⟨a0, a1, a2, a3, a4, a5⟩, f0, f1, f2, f3, f4, f5⟩ := cells6 (HRO.out w4 HB4.out)
      go_wp2_with (fail)
      refine bodyPost_ret (v := .tuple #[.agg zrow, .int .i64 501]) ?_ rfl ⟨uni_none HP.out rfl, ?_⟩
      · exact results_ct (by rfl) _ _ w.heap.size 26 _ (0, 0) _ rfl (row6 (HRO.out w4 HB4.out)) Tryz.underlying26 rfl (by kernel_rfl) _ rfl
      · exact below6 (HB1.out.trans (HB4.out.mono HB1.out.size)) (Nat.le_refl _)
    · have qehlo : (W.toList == [101, 104, 108, 111]) = false := by rw [eq_const W _ [101, 104, 108, 111] rfl, HWW.out, lst_str, hword]; decide
      have qhelo : (W.toList == [104, 101, 108, 111]) = false := by rw [eq_const W _ [104, 101, 108, 111] rfl, HWW.out, lst_str, hword]; decide
      have qmail : (W.toList == [109, 97, 105, 108]) = false := by rw [eq_const W _ [109, 97, 105, 108] rfl, HWW.out, lst_str, hword]; decide
      have qrcpt : (W.toList == [114, 99, 112, 116]) = false := by rw [eq_const W _ [114, 99, 112, 116] rfl, HWW.out, lst_str, hword]; decide
      have qdata : (W.toList == [100, 97, 116, 97]) = false := by rw [eq_const W _ [100, 97, 116, 97] rfl, HWW.out, lst_str, hword]; decide
      have qrset : (W.toList == [114, 115, 101, 116]) = false := by rw [eq_const W _ [114, 115, 101, 116] rfl, HWW.out, lst_str, hword]; decide
      have qquit : (W.toList == [113, 117, 105, 116]) = false := by rw [eq_const W _ [113, 117, 105, 116] rfl, HWW.out, lst_str, hword]; decide
      have qnoop : (W.toList == [110, 111, 111, 112]) = false := by rw [eq_const W _ [110, 111, 111, 112] rfl, HWW.out, lst_str, hword]; decide
      have qvrfy : (W.toList == [118, 114, 102, 121]) = false := by rw [eq_const W _ [118, 114, 102, 121] rfl, HWW.out, lst_str, hword]; decide
      have qetrn : (W.toList == [101, 116, 114, 110]) = false := by rw [eq_const W _ [101, 116, 114, 110] rfl, HWW.out, lst_str, hword]; decide
      have qauth : (W.toList == [97, 117, 116, 104]) = true := by rw [eq_const W _ [97, 117, 116, 104] rfl, HWW.out, lst_str, hword]; decide
      have qatrn : (W.toList == [97, 116, 114, 110]) = false := by rw [eq_const W _ [97, 116, 114, 110] rfl, HWW.out, lst_str, hword]; decide
      have HP := Aside0.mk (show V.parse (lst s) = (none, 501) by rw [HT1.out, HT.out, hword, told_Auth]; decide +kernel)
      clear hword
      have HFO := Aside0.mk (fun w => rfold_any ⟨#[]⟩ w (by decide))
      have HME := Aside0.mk (fun w => rmech_any ⟨#[]⟩ w (by decide))
      go_wp2_with (first | (go_at_call 29; (with_reducible refine Calls.mono (HFO.out _) ?_); rintro e w5 ⟨rfl, h⟩; have H5 := Aside0.mk (HB4.out.trans (h.mono HB4.out.size)); clear h; rw [show str (V.fold (lst ⟨#[]⟩)) = ⟨#[]⟩ from by decide]) | (go_at_call 30; (with_reducible refine Calls.mono (HME.out _) ?_); rintro e w6 ⟨rfl, h⟩; have H6 := Aside0.mk (H5.out.trans ((drawn_below h).mono H5.out.size)); clear h; rw [show ((lst ⟨#[]⟩).all goodL && !(lst ⟨#[]⟩).isEmpty) = false from by decide]; obtain ⟨⟨a0, a1, a2, a3, a4, a5⟩, f0, f1, f2, f3, f4, f5⟩ := cells6 (HRO.out w6 H6.out)))
      refine bodyPost_ret (v := .tuple #[.agg zrow, .int .i64 501]) ?_ rfl ⟨uni_none HP.out rfl, ?_⟩
      · exact results_ct (by rfl) _ _ w.heap.size 26 _ (0, 0) _ rfl (row6 (HRO.out w6 H6.out)) Tryz.underlying26 rfl (by kernel_rfl) _ rfl
      · exact below6 (HB1.out.trans (H6.out.mono HB1.out.size)) (Nat.le_refl _)
    · have qehlo : (W.toList == [101, 104, 108, 111]) = false := by rw [eq_const W _ [101, 104, 108, 111] rfl, HWW.out, lst_str, hword]; decide
      have qhelo : (W.toList == [104, 101, 108, 111]) = false := by rw [eq_const W _ [104, 101, 108, 111] rfl, HWW.out, lst_str, hword]; decide
      have qmail : (W.toList == [109, 97, 105, 108]) = false := by rw [eq_const W _ [109, 97, 105, 108] rfl, HWW.out, lst_str, hword]; decide
      have qrcpt : (W.toList == [114, 99, 112, 116]) = false := by rw [eq_const W _ [114, 99, 112, 116] rfl, HWW.out, lst_str, hword]; decide
      have qdata : (W.toList == [100, 97, 116, 97]) = false := by rw [eq_const W _ [100, 97, 116, 97] rfl, HWW.out, lst_str, hword]; decide
      have qrset : (W.toList == [114, 115, 101, 116]) = false := by rw [eq_const W _ [114, 115, 101, 116] rfl, HWW.out, lst_str, hword]; decide
      have qquit : (W.toList == [113, 117, 105, 116]) = false := by rw [eq_const W _ [113, 117, 105, 116] rfl, HWW.out, lst_str, hword]; decide
      have qnoop : (W.toList == [110, 111, 111, 112]) = false := by rw [eq_const W _ [110, 111, 111, 112] rfl, HWW.out, lst_str, hword]; decide
      have qvrfy : (W.toList == [118, 114, 102, 121]) = false := by rw [eq_const W _ [118, 114, 102, 121] rfl, HWW.out, lst_str, hword]; decide
      have qetrn : (W.toList == [101, 116, 114, 110]) = false := by rw [eq_const W _ [101, 116, 114, 110] rfl, HWW.out, lst_str, hword]; decide
      have qauth : (W.toList == [97, 117, 116, 104]) = false := by rw [eq_const W _ [97, 117, 116, 104] rfl, HWW.out, lst_str, hword]; decide
      have qatrn : (W.toList == [97, 116, 114, 110]) = true := by rw [eq_const W _ [97, 116, 114, 110] rfl, HWW.out, lst_str, hword]; decide
      have HP := Aside0.mk (show V.parse (lst s) = (some ⟨11, [], V.noPath, []⟩, 0) by rw [HT1.out, HT.out, hword, told_Atrn]; rfl)
      clear hword
      obtain ⟨⟨a0, a1, a2, a3, a4, a5⟩, f0, f1, f2, f3, f4, f5⟩ := cells6 (HRO.out w4 HB4.out)
      go_wp2_with (fail)
      refine bodyPost_ret (v := .tuple #[.agg #[.int .i64 11, .string { data := #[] }, .bool false, .string { data := #[] }, .string { data := #[] }, .slice none 0 0], .int .i64 0]) ?_ rfl ⟨uni_some HP.out rfl rfl, ?_⟩
      · exact results_ct (by rfl) _ _ w.heap.size 26 _ (0, 0) _ rfl (row6 (HRO.out w4 HB4.out)) Tryz.underlying26 rfl (by kernel_rfl) _ rfl
      · exact below6 (HB1.out.trans (HB4.out.mono HB1.out.size)) (Nat.le_refl _)
  | some r =>
    have hs5 : 5 ≤ s.size ∧ s.size = 5 + r.length := by
      have h := HT2.out
      have := HLL.out
      rw [ht] at h
      simp [V.tl] at h
      omega
    have hs5' := hs5.1
    have HT := Aside0.mk ht
    have HR := Aside0.mk (show s.extract 5 s.size = str r by
      rw [ext_drop]
      have h := HT3.out
      rw [ht] at h
      rw [h]
      rfl)
    have HRL := Aside0.mk (show r.length ≤ 505 by have := HS5.out; omega)
    have u1 : ((4 : Int) == (s.size : Int)) = false := by rw [beq_eq_false_iff_ne]; omega
    have u2 : decide ((4 : Int) = (s.size : Int)) = false := decide_eq_false (by omega)
    have u3 : (4 == s.size) = false := by rw [beq_eq_false_iff_ne]; omega
    have u4 : decide (4 = s.size) = false := decide_eq_false (by omega)
    have u5 : (5 : Int) ≤ (s.size : Int) := by omega
    clear ht hs5
    go_upto_region 15 with (fail)
    rw [HR.out]
    obtain ⟨R, hR⟩ : ∃ R, R = str r := ⟨_, rfl⟩
    rw [← hR]
    have HRR := Aside0.mk hR
    have HRS := Aside0.mk (show R.size ≤ 505 by rw [hR, str_size]; exact HRL.out)
    have HRLL := Aside0.mk (show lst R = r by rw [hR, lst_str])
    clear hR
    have hmem : wd = wEhlo ∨ wd = wHelo ∨ wd = wMail ∨ wd = wRcpt ∨ wd = wData ∨ wd = wRset ∨ wd = wQuit ∨ wd = wNoop ∨ wd = wVrfy ∨ wd = wEtrn ∨ wd = wAuth ∨ wd = wAtrn := by
      have h := HHM.out
      rw [words_eq] at h
      simpa using h
    rcases hmem with hword | hword | hword | hword | hword | hword | hword | hword | hword | hword | hword | hword
    · have qehlo : (W.toList == [101, 104, 108, 111]) = true := by rw [eq_const W _ [101, 104, 108, 111] rfl, HWW.out, lst_str, hword]; decide
      have qhelo : (W.toList == [104, 101, 108, 111]) = false := by rw [eq_const W _ [104, 101, 108, 111] rfl, HWW.out, lst_str, hword]; decide
      have qmail : (W.toList == [109, 97, 105, 108]) = false := by rw [eq_const W _ [109, 97, 105, 108] rfl, HWW.out, lst_str, hword]; decide
      have qrcpt : (W.toList == [114, 99, 112, 116]) = false := by rw [eq_const W _ [114, 99, 112, 116] rfl, HWW.out, lst_str, hword]; decide
      have qdata : (W.toList == [100, 97, 116, 97]) = false := by rw [eq_const W _ [100, 97, 116, 97] rfl, HWW.out, lst_str, hword]; decide
      have qrset : (W.toList == [114, 115, 101, 116]) = false := by rw [eq_const W _ [114, 115, 101, 116] rfl, HWW.out, lst_str, hword]; decide
      have qquit : (W.toList == [113, 117, 105, 116]) = false := by rw [eq_const W _ [113, 117, 105, 116] rfl, HWW.out, lst_str, hword]; decide
      have qnoop : (W.toList == [110, 111, 111, 112]) = false := by rw [eq_const W _ [110, 111, 111, 112] rfl, HWW.out, lst_str, hword]; decide
      have qvrfy : (W.toList == [118, 114, 102, 121]) = false := by rw [eq_const W _ [118, 114, 102, 121] rfl, HWW.out, lst_str, hword]; decide
      have qetrn : (W.toList == [101, 116, 114, 110]) = false := by rw [eq_const W _ [101, 116, 114, 110] rfl, HWW.out, lst_str, hword]; decide
      have qauth : (W.toList == [97, 117, 116, 104]) = false := by rw [eq_const W _ [97, 117, 116, 104] rfl, HWW.out, lst_str, hword]; decide
      have qatrn : (W.toList == [97, 116, 114, 110]) = false := by rw [eq_const W _ [97, 116, 114, 110] rfl, HWW.out, lst_str, hword]; decide
      have hdo := fun w => rdomain_any R w (by have := HRS.out; omega)
      rw [HRLL.out] at hdo
      have HDO := Aside0.mk hdo
      clear hdo
      cases hd : V.domain r with
      | true =>
        have HP := Aside0.mk (show V.parse (lst s) = (some ⟨1, r, V.noPath, []⟩, 0) by rw [HT1.out, HT.out, hword, told_Ehlo]; unfold V.refN; simp only; rw [if_pos hd])
        have HDD := Aside0.mk hd
        clear hword hd
        go_wp2_with (first | (go_at_call 26; (with_reducible refine Calls.mono (HDO.out _) ?_); rintro e w5 ⟨rfl, h⟩; have H5 := Aside0.mk (HB4.out.trans ((drawn_below h).mono HB4.out.size)); clear h; rw [HDD.out]; obtain ⟨⟨a0, a1, a2, a3, a4, a5⟩, f0, f1, f2, f3, f4, f5⟩ := cells6 (HRO.out w5 H5.out)))
        refine bodyPost_ret (v := .tuple #[.agg #[.int .i64 1, .string R, .bool false, .string { data := #[] }, .string { data := #[] }, .slice none 0 0], .int .i64 0]) ?_ rfl ⟨uni_some HP.out HRR.out rfl, ?_⟩
        · exact results_ct (by rfl) _ _ w.heap.size 26 _ (0, 0) _ rfl (row6 (HRO.out w5 H5.out)) Tryz.underlying26 rfl (by kernel_rfl) _ rfl
        · exact below6 (HB1.out.trans (H5.out.mono HB1.out.size)) (Nat.le_refl _)
      | false =>
        have HP := Aside0.mk (show V.parse (lst s) = (none, 501) by rw [HT1.out, HT.out, hword, told_Ehlo]; unfold V.refN; simp only; rw [if_neg (by rw [hd]; decide)])
        have HDD := Aside0.mk hd
        clear hword hd
        go_wp2_with (first | (go_at_call 26; (with_reducible refine Calls.mono (HDO.out _) ?_); rintro e w5 ⟨rfl, h⟩; have H5 := Aside0.mk (HB4.out.trans ((drawn_below h).mono HB4.out.size)); clear h; rw [HDD.out]; obtain ⟨⟨a0, a1, a2, a3, a4, a5⟩, f0, f1, f2, f3, f4, f5⟩ := cells6 (HRO.out w5 H5.out)))
        refine bodyPost_ret (v := .tuple #[.agg zrow, .int .i64 501]) ?_ rfl ⟨uni_none HP.out rfl, ?_⟩
        · exact results_ct (by rfl) _ _ w.heap.size 26 _ (0, 0) _ rfl (row6 (HRO.out w5 H5.out)) Tryz.underlying26 rfl (by kernel_rfl) _ rfl
        · exact below6 (HB1.out.trans (H5.out.mono HB1.out.size)) (Nat.le_refl _)
    · have qehlo : (W.toList == [101, 104, 108, 111]) = false := by rw [eq_const W _ [101, 104, 108, 111] rfl, HWW.out, lst_str, hword]; decide
      have qhelo : (W.toList == [104, 101, 108, 111]) = true := by rw [eq_const W _ [104, 101, 108, 111] rfl, HWW.out, lst_str, hword]; decide
      have qmail : (W.toList == [109, 97, 105, 108]) = false := by rw [eq_const W _ [109, 97, 105, 108] rfl, HWW.out, lst_str, hword]; decide
      have qrcpt : (W.toList == [114, 99, 112, 116]) = false := by rw [eq_const W _ [114, 99, 112, 116] rfl, HWW.out, lst_str, hword]; decide
      have qdata : (W.toList == [100, 97, 116, 97]) = false := by rw [eq_const W _ [100, 97, 116, 97] rfl, HWW.out, lst_str, hword]; decide
      have qrset : (W.toList == [114, 115, 101, 116]) = false := by rw [eq_const W _ [114, 115, 101, 116] rfl, HWW.out, lst_str, hword]; decide
      have qquit : (W.toList == [113, 117, 105, 116]) = false := by rw [eq_const W _ [113, 117, 105, 116] rfl, HWW.out, lst_str, hword]; decide
      have qnoop : (W.toList == [110, 111, 111, 112]) = false := by rw [eq_const W _ [110, 111, 111, 112] rfl, HWW.out, lst_str, hword]; decide
      have qvrfy : (W.toList == [118, 114, 102, 121]) = false := by rw [eq_const W _ [118, 114, 102, 121] rfl, HWW.out, lst_str, hword]; decide
      have qetrn : (W.toList == [101, 116, 114, 110]) = false := by rw [eq_const W _ [101, 116, 114, 110] rfl, HWW.out, lst_str, hword]; decide
      have qauth : (W.toList == [97, 117, 116, 104]) = false := by rw [eq_const W _ [97, 117, 116, 104] rfl, HWW.out, lst_str, hword]; decide
      have qatrn : (W.toList == [97, 116, 114, 110]) = false := by rw [eq_const W _ [97, 116, 114, 110] rfl, HWW.out, lst_str, hword]; decide
      have hdo := fun w => rdomain_any R w (by have := HRS.out; omega)
      rw [HRLL.out] at hdo
      have HDO := Aside0.mk hdo
      clear hdo
      cases hd : V.domain r with
      | true =>
        have HP := Aside0.mk (show V.parse (lst s) = (some ⟨1, r, V.noPath, []⟩, 0) by rw [HT1.out, HT.out, hword, told_Helo]; unfold V.refN; simp only; rw [if_pos hd])
        have HDD := Aside0.mk hd
        clear hword hd
        go_wp2_with (first | (go_at_call 26; (with_reducible refine Calls.mono (HDO.out _) ?_); rintro e w5 ⟨rfl, h⟩; have H5 := Aside0.mk (HB4.out.trans ((drawn_below h).mono HB4.out.size)); clear h; rw [HDD.out]; obtain ⟨⟨a0, a1, a2, a3, a4, a5⟩, f0, f1, f2, f3, f4, f5⟩ := cells6 (HRO.out w5 H5.out)))
        refine bodyPost_ret (v := .tuple #[.agg #[.int .i64 1, .string R, .bool false, .string { data := #[] }, .string { data := #[] }, .slice none 0 0], .int .i64 0]) ?_ rfl ⟨uni_some HP.out HRR.out rfl, ?_⟩
        · exact results_ct (by rfl) _ _ w.heap.size 26 _ (0, 0) _ rfl (row6 (HRO.out w5 H5.out)) Tryz.underlying26 rfl (by kernel_rfl) _ rfl
        · exact below6 (HB1.out.trans (H5.out.mono HB1.out.size)) (Nat.le_refl _)
      | false =>
        have HP := Aside0.mk (show V.parse (lst s) = (none, 501) by rw [HT1.out, HT.out, hword, told_Helo]; unfold V.refN; simp only; rw [if_neg (by rw [hd]; decide)])
        have HDD := Aside0.mk hd
        clear hword hd
        go_wp2_with (first | (go_at_call 26; (with_reducible refine Calls.mono (HDO.out _) ?_); rintro e w5 ⟨rfl, h⟩; have H5 := Aside0.mk (HB4.out.trans ((drawn_below h).mono HB4.out.size)); clear h; rw [HDD.out]; obtain ⟨⟨a0, a1, a2, a3, a4, a5⟩, f0, f1, f2, f3, f4, f5⟩ := cells6 (HRO.out w5 H5.out)))
        refine bodyPost_ret (v := .tuple #[.agg zrow, .int .i64 501]) ?_ rfl ⟨uni_none HP.out rfl, ?_⟩
        · exact results_ct (by rfl) _ _ w.heap.size 26 _ (0, 0) _ rfl (row6 (HRO.out w5 H5.out)) Tryz.underlying26 rfl (by kernel_rfl) _ rfl
        · exact below6 (HB1.out.trans (H5.out.mono HB1.out.size)) (Nat.le_refl _)
    · have qehlo : (W.toList == [101, 104, 108, 111]) = false := by rw [eq_const W _ [101, 104, 108, 111] rfl, HWW.out, lst_str, hword]; decide
      have qhelo : (W.toList == [104, 101, 108, 111]) = false := by rw [eq_const W _ [104, 101, 108, 111] rfl, HWW.out, lst_str, hword]; decide
      have qmail : (W.toList == [109, 97, 105, 108]) = true := by rw [eq_const W _ [109, 97, 105, 108] rfl, HWW.out, lst_str, hword]; decide
      have qrcpt : (W.toList == [114, 99, 112, 116]) = false := by rw [eq_const W _ [114, 99, 112, 116] rfl, HWW.out, lst_str, hword]; decide
      have qdata : (W.toList == [100, 97, 116, 97]) = false := by rw [eq_const W _ [100, 97, 116, 97] rfl, HWW.out, lst_str, hword]; decide
      have qrset : (W.toList == [114, 115, 101, 116]) = false := by rw [eq_const W _ [114, 115, 101, 116] rfl, HWW.out, lst_str, hword]; decide
      have qquit : (W.toList == [113, 117, 105, 116]) = false := by rw [eq_const W _ [113, 117, 105, 116] rfl, HWW.out, lst_str, hword]; decide
      have qnoop : (W.toList == [110, 111, 111, 112]) = false := by rw [eq_const W _ [110, 111, 111, 112] rfl, HWW.out, lst_str, hword]; decide
      have qvrfy : (W.toList == [118, 114, 102, 121]) = false := by rw [eq_const W _ [118, 114, 102, 121] rfl, HWW.out, lst_str, hword]; decide
      have qetrn : (W.toList == [101, 116, 114, 110]) = false := by rw [eq_const W _ [101, 116, 114, 110] rfl, HWW.out, lst_str, hword]; decide
      have qauth : (W.toList == [97, 117, 116, 104]) = false := by rw [eq_const W _ [97, 117, 116, 104] rfl, HWW.out, lst_str, hword]; decide
      have qatrn : (W.toList == [97, 116, 114, 110]) = false := by rw [eq_const W _ [97, 116, 114, 110] rfl, HWW.out, lst_str, hword]; decide
      have hbg := fun w => rbegins_any R ⟨#[102, 114, 111, 109, 58]⟩ w (by have := HRS.out; omega) (by decide)
      rw [HRLL.out, show lst ⟨#[102, 114, 111, 109, 58]⟩ = bFrom from rfl] at hbg
      have hpv := HT1.out
      rw [HT.out, hword, told_Mail] at hpv
      unfold V.refM at hpv
      simp only at hpv
      clear hword
      cases ha : V.after r bFrom with
      | none =>
        rw [ha] at hbg hpv
        have HP := Aside0.mk (show V.parse (lst s) = (none, 501) from hpv)
        have HBG := Aside0.mk hbg
        clear hbg hpv ha
        go_wp2_with (first | (go_at_call 27; (with_reducible refine Calls.mono (HBG.out _) ?_); rintro e w5 ⟨rfl, h⟩; have H5 := Aside0.mk (HB4.out.trans (h.mono HB4.out.size)); clear h; simp only [begRes]; obtain ⟨⟨a0, a1, a2, a3, a4, a5⟩, f0, f1, f2, f3, f4, f5⟩ := cells6 (HRO.out w5 H5.out)))
        refine bodyPost_ret (v := .tuple #[.agg zrow, .int .i64 501]) ?_ rfl ⟨uni_none HP.out rfl, ?_⟩
        · exact results_ct (by rfl) _ _ w.heap.size 26 _ (0, 0) _ rfl (row6 (HRO.out w5 H5.out)) Tryz.underlying26 rfl (by kernel_rfl) _ rfl
        · exact below6 (HB1.out.trans (H5.out.mono HB1.out.size)) (Nat.le_refl _)
      | some x =>
        rw [ha] at hbg hpv
        have hxl : (str x).size ≤ 600 := by rw [str_size]; have := mail_len (k := 0) ha; have := HRL.out; omega
        have hpt := fun w => rpathed_any 2 (str x) w hxl (by first | exact Or.inl rfl | exact Or.inr rfl)
        rw [lst_str] at hpt
        obtain ⟨X, hX⟩ : ∃ X, X = str x := ⟨_, rfl⟩
        rw [← hX] at hpt
        have HX := Aside0.mk hX
        have HBG := Aside0.mk hbg
        clear hbg ha hxl hX
        cases hm : V.mailbox 2 x with
        | none =>
          rw [hm] at hpt
          have HP := Aside0.mk (show V.parse (lst s) = (none, 501) by rw [hpv]; unfold V.refM2; simp only; rw [hm]; rfl)
          have HPT := Aside0.mk hpt
          clear hpt hpv hm
          go_wp2_with (first | (go_at_call 27; (with_reducible refine Calls.mono (HBG.out _) ?_); rintro e w5 ⟨rfl, h⟩; have H5 := Aside0.mk (HB4.out.trans (h.mono HB4.out.size)); clear h; simp only [begRes]; rw [← HX.out]) | (go_at_call 28; (with_reducible refine Calls.mono (HPT.out _) ?_); rintro e w6 ⟨rfl, h⟩; have H6 := Aside0.mk (H5.out.trans (h.mono H5.out.size)); clear h; simp only [cval, cv, V.noCmd, V.noPath, noSl]; obtain ⟨⟨a0, a1, a2, a3, a4, a5⟩, f0, f1, f2, f3, f4, f5⟩ := cells6 (HRO.out w6 H6.out)))
          refine bodyPost_ret (v := .tuple #[.agg zrow, .int .i64 501]) ?_ rfl ⟨uni_none HP.out rfl, ?_⟩
          · exact results_ct (by rfl) _ _ w.heap.size 26 _ (0, 0) _ rfl (row6 (HRO.out w6 H6.out)) Tryz.underlying26 rfl (by kernel_rfl) _ rfl
          · exact below6 (HB1.out.trans (H6.out.mono HB1.out.size)) (Nat.le_refl _)
        | some c =>
          rw [hm] at hpt
          have HP := Aside0.mk (show V.parse (lst s) = (some c, 0) by rw [hpv]; unfold V.refM2; simp only; rw [hm]; rfl)
          have HPT := Aside0.mk hpt
          clear hpt hpv hm
          go_wp2_with (first | (go_at_call 27; (with_reducible refine Calls.mono (HBG.out _) ?_); rintro e w5 ⟨rfl, h⟩; have H5 := Aside0.mk (HB4.out.trans (h.mono HB4.out.size)); clear h; simp only [begRes]; rw [← HX.out]) | (go_at_call 28; (with_reducible refine Calls.mono (HPT.out _) ?_); rintro e w6 ⟨⟨v, rfl, hR, hl⟩, h⟩; have H6 := Aside0.mk (H5.out.trans (h.mono H5.out.size)); obtain ⟨A, q, rfl, hq, hC⟩ := Kd.R_reads hR; have HR6 := Aside0.mk hR; have HL6 := Aside0.mk hl; clear h hR hl hq hC; simp only [cval, cv]; obtain ⟨⟨a0, a1, a2, a3, a4, a5⟩, f0, f1, f2, f3, f4, f5⟩ := cells6 (HRO.out w6 H6.out)))
          have hgl : w.heap.size < w5.heap.size := Nat.lt_of_lt_of_le HSB.out H5.out.size
          refine bodyPost_ret (v := .tuple #[.agg (cv c.kind (str c.text) c.path.null (str c.path.loc) (str c.path.dom) (.slice A c.prms.length q)), .int .i64 0]) ?_ rfl ⟨uni_path HP.out (fin_R HR6.out hgl (Nat.le_of_lt hgl)) HL6.out rfl, ?_⟩
          · exact results_ct (by rfl) _ _ w.heap.size 26 _ (0, 0) _ rfl (row6 (HRO.out w6 H6.out)) Tryz.underlying26 rfl (by kernel_rfl) _ rfl
          · exact below6 (HB1.out.trans (H6.out.mono HB1.out.size)) (Nat.le_refl _)
    · have qehlo : (W.toList == [101, 104, 108, 111]) = false := by rw [eq_const W _ [101, 104, 108, 111] rfl, HWW.out, lst_str, hword]; decide
      have qhelo : (W.toList == [104, 101, 108, 111]) = false := by rw [eq_const W _ [104, 101, 108, 111] rfl, HWW.out, lst_str, hword]; decide
      have qmail : (W.toList == [109, 97, 105, 108]) = false := by rw [eq_const W _ [109, 97, 105, 108] rfl, HWW.out, lst_str, hword]; decide
      have qrcpt : (W.toList == [114, 99, 112, 116]) = true := by rw [eq_const W _ [114, 99, 112, 116] rfl, HWW.out, lst_str, hword]; decide
      have qdata : (W.toList == [100, 97, 116, 97]) = false := by rw [eq_const W _ [100, 97, 116, 97] rfl, HWW.out, lst_str, hword]; decide
      have qrset : (W.toList == [114, 115, 101, 116]) = false := by rw [eq_const W _ [114, 115, 101, 116] rfl, HWW.out, lst_str, hword]; decide
      have qquit : (W.toList == [113, 117, 105, 116]) = false := by rw [eq_const W _ [113, 117, 105, 116] rfl, HWW.out, lst_str, hword]; decide
      have qnoop : (W.toList == [110, 111, 111, 112]) = false := by rw [eq_const W _ [110, 111, 111, 112] rfl, HWW.out, lst_str, hword]; decide
      have qvrfy : (W.toList == [118, 114, 102, 121]) = false := by rw [eq_const W _ [118, 114, 102, 121] rfl, HWW.out, lst_str, hword]; decide
      have qetrn : (W.toList == [101, 116, 114, 110]) = false := by rw [eq_const W _ [101, 116, 114, 110] rfl, HWW.out, lst_str, hword]; decide
      have qauth : (W.toList == [97, 117, 116, 104]) = false := by rw [eq_const W _ [97, 117, 116, 104] rfl, HWW.out, lst_str, hword]; decide
      have qatrn : (W.toList == [97, 116, 114, 110]) = false := by rw [eq_const W _ [97, 116, 114, 110] rfl, HWW.out, lst_str, hword]; decide
      have hbg := fun w => rbegins_any R ⟨#[116, 111, 58]⟩ w (by have := HRS.out; omega) (by decide)
      rw [HRLL.out, show lst ⟨#[116, 111, 58]⟩ = bTo from rfl] at hbg
      have hpv := HT1.out
      rw [HT.out, hword, told_Rcpt] at hpv
      unfold V.refM at hpv
      simp only at hpv
      clear hword
      cases ha : V.after r bTo with
      | none =>
        rw [ha] at hbg hpv
        have HP := Aside0.mk (show V.parse (lst s) = (none, 501) from hpv)
        have HBG := Aside0.mk hbg
        clear hbg hpv ha
        go_wp2_with (first | (go_at_call 27; (with_reducible refine Calls.mono (HBG.out _) ?_); rintro e w5 ⟨rfl, h⟩; have H5 := Aside0.mk (HB4.out.trans (h.mono HB4.out.size)); clear h; simp only [begRes]; obtain ⟨⟨a0, a1, a2, a3, a4, a5⟩, f0, f1, f2, f3, f4, f5⟩ := cells6 (HRO.out w5 H5.out)))
        refine bodyPost_ret (v := .tuple #[.agg zrow, .int .i64 501]) ?_ rfl ⟨uni_none HP.out rfl, ?_⟩
        · exact results_ct (by rfl) _ _ w.heap.size 26 _ (0, 0) _ rfl (row6 (HRO.out w5 H5.out)) Tryz.underlying26 rfl (by kernel_rfl) _ rfl
        · exact below6 (HB1.out.trans (H5.out.mono HB1.out.size)) (Nat.le_refl _)
      | some x =>
        rw [ha] at hbg hpv
        have hxl : (str x).size ≤ 600 := by rw [str_size]; have := mail_len (k := 0) ha; have := HRL.out; omega
        have hpt := fun w => rpathed_any 3 (str x) w hxl (by first | exact Or.inl rfl | exact Or.inr rfl)
        rw [lst_str] at hpt
        obtain ⟨X, hX⟩ : ∃ X, X = str x := ⟨_, rfl⟩
        rw [← hX] at hpt
        have HX := Aside0.mk hX
        have HBG := Aside0.mk hbg
        clear hbg ha hxl hX
        cases hm : V.mailbox 3 x with
        | none =>
          rw [hm] at hpt
          have HP := Aside0.mk (show V.parse (lst s) = (none, 501) by rw [hpv]; unfold V.refM2; simp only; rw [hm]; rfl)
          have HPT := Aside0.mk hpt
          clear hpt hpv hm
          go_wp2_with (first | (go_at_call 27; (with_reducible refine Calls.mono (HBG.out _) ?_); rintro e w5 ⟨rfl, h⟩; have H5 := Aside0.mk (HB4.out.trans (h.mono HB4.out.size)); clear h; simp only [begRes]; rw [← HX.out]) | (go_at_call 28; (with_reducible refine Calls.mono (HPT.out _) ?_); rintro e w6 ⟨rfl, h⟩; have H6 := Aside0.mk (H5.out.trans (h.mono H5.out.size)); clear h; simp only [cval, cv, V.noCmd, V.noPath, noSl]; obtain ⟨⟨a0, a1, a2, a3, a4, a5⟩, f0, f1, f2, f3, f4, f5⟩ := cells6 (HRO.out w6 H6.out)))
          refine bodyPost_ret (v := .tuple #[.agg zrow, .int .i64 501]) ?_ rfl ⟨uni_none HP.out rfl, ?_⟩
          · exact results_ct (by rfl) _ _ w.heap.size 26 _ (0, 0) _ rfl (row6 (HRO.out w6 H6.out)) Tryz.underlying26 rfl (by kernel_rfl) _ rfl
          · exact below6 (HB1.out.trans (H6.out.mono HB1.out.size)) (Nat.le_refl _)
        | some c =>
          rw [hm] at hpt
          have HP := Aside0.mk (show V.parse (lst s) = (some c, 0) by rw [hpv]; unfold V.refM2; simp only; rw [hm]; rfl)
          have HPT := Aside0.mk hpt
          clear hpt hpv hm
          go_wp2_with (first | (go_at_call 27; (with_reducible refine Calls.mono (HBG.out _) ?_); rintro e w5 ⟨rfl, h⟩; have H5 := Aside0.mk (HB4.out.trans (h.mono HB4.out.size)); clear h; simp only [begRes]; rw [← HX.out]) | (go_at_call 28; (with_reducible refine Calls.mono (HPT.out _) ?_); rintro e w6 ⟨⟨v, rfl, hR, hl⟩, h⟩; have H6 := Aside0.mk (H5.out.trans (h.mono H5.out.size)); obtain ⟨A, q, rfl, hq, hC⟩ := Kd.R_reads hR; have HR6 := Aside0.mk hR; have HL6 := Aside0.mk hl; clear h hR hl hq hC; simp only [cval, cv]; obtain ⟨⟨a0, a1, a2, a3, a4, a5⟩, f0, f1, f2, f3, f4, f5⟩ := cells6 (HRO.out w6 H6.out)))
          have hgl : w.heap.size < w5.heap.size := Nat.lt_of_lt_of_le HSB.out H5.out.size
          refine bodyPost_ret (v := .tuple #[.agg (cv c.kind (str c.text) c.path.null (str c.path.loc) (str c.path.dom) (.slice A c.prms.length q)), .int .i64 0]) ?_ rfl ⟨uni_path HP.out (fin_R HR6.out hgl (Nat.le_of_lt hgl)) HL6.out rfl, ?_⟩
          · exact results_ct (by rfl) _ _ w.heap.size 26 _ (0, 0) _ rfl (row6 (HRO.out w6 H6.out)) Tryz.underlying26 rfl (by kernel_rfl) _ rfl
          · exact below6 (HB1.out.trans (H6.out.mono HB1.out.size)) (Nat.le_refl _)
    · have qehlo : (W.toList == [101, 104, 108, 111]) = false := by rw [eq_const W _ [101, 104, 108, 111] rfl, HWW.out, lst_str, hword]; decide
      have qhelo : (W.toList == [104, 101, 108, 111]) = false := by rw [eq_const W _ [104, 101, 108, 111] rfl, HWW.out, lst_str, hword]; decide
      have qmail : (W.toList == [109, 97, 105, 108]) = false := by rw [eq_const W _ [109, 97, 105, 108] rfl, HWW.out, lst_str, hword]; decide
      have qrcpt : (W.toList == [114, 99, 112, 116]) = false := by rw [eq_const W _ [114, 99, 112, 116] rfl, HWW.out, lst_str, hword]; decide
      have qdata : (W.toList == [100, 97, 116, 97]) = true := by rw [eq_const W _ [100, 97, 116, 97] rfl, HWW.out, lst_str, hword]; decide
      have qrset : (W.toList == [114, 115, 101, 116]) = false := by rw [eq_const W _ [114, 115, 101, 116] rfl, HWW.out, lst_str, hword]; decide
      have qquit : (W.toList == [113, 117, 105, 116]) = false := by rw [eq_const W _ [113, 117, 105, 116] rfl, HWW.out, lst_str, hword]; decide
      have qnoop : (W.toList == [110, 111, 111, 112]) = false := by rw [eq_const W _ [110, 111, 111, 112] rfl, HWW.out, lst_str, hword]; decide
      have qvrfy : (W.toList == [118, 114, 102, 121]) = false := by rw [eq_const W _ [118, 114, 102, 121] rfl, HWW.out, lst_str, hword]; decide
      have qetrn : (W.toList == [101, 116, 114, 110]) = false := by rw [eq_const W _ [101, 116, 114, 110] rfl, HWW.out, lst_str, hword]; decide
      have qauth : (W.toList == [97, 117, 116, 104]) = false := by rw [eq_const W _ [97, 117, 116, 104] rfl, HWW.out, lst_str, hword]; decide
      have qatrn : (W.toList == [97, 116, 114, 110]) = false := by rw [eq_const W _ [97, 116, 114, 110] rfl, HWW.out, lst_str, hword]; decide
      have HP := Aside0.mk (show V.parse (lst s) = (none, 501) by rw [HT1.out, HT.out, hword, told_Data]; rfl)
      clear hword
      obtain ⟨⟨a0, a1, a2, a3, a4, a5⟩, f0, f1, f2, f3, f4, f5⟩ := cells6 (HRO.out w4 HB4.out)
      go_wp2_with (fail)
      refine bodyPost_ret (v := .tuple #[.agg zrow, .int .i64 501]) ?_ rfl ⟨uni_none HP.out rfl, ?_⟩
      · exact results_ct (by rfl) _ _ w.heap.size 26 _ (0, 0) _ rfl (row6 (HRO.out w4 HB4.out)) Tryz.underlying26 rfl (by kernel_rfl) _ rfl
      · exact below6 (HB1.out.trans (HB4.out.mono HB1.out.size)) (Nat.le_refl _)
    · have qehlo : (W.toList == [101, 104, 108, 111]) = false := by rw [eq_const W _ [101, 104, 108, 111] rfl, HWW.out, lst_str, hword]; decide
      have qhelo : (W.toList == [104, 101, 108, 111]) = false := by rw [eq_const W _ [104, 101, 108, 111] rfl, HWW.out, lst_str, hword]; decide
      have qmail : (W.toList == [109, 97, 105, 108]) = false := by rw [eq_const W _ [109, 97, 105, 108] rfl, HWW.out, lst_str, hword]; decide
      have qrcpt : (W.toList == [114, 99, 112, 116]) = false := by rw [eq_const W _ [114, 99, 112, 116] rfl, HWW.out, lst_str, hword]; decide
      have qdata : (W.toList == [100, 97, 116, 97]) = false := by rw [eq_const W _ [100, 97, 116, 97] rfl, HWW.out, lst_str, hword]; decide
      have qrset : (W.toList == [114, 115, 101, 116]) = true := by rw [eq_const W _ [114, 115, 101, 116] rfl, HWW.out, lst_str, hword]; decide
      have qquit : (W.toList == [113, 117, 105, 116]) = false := by rw [eq_const W _ [113, 117, 105, 116] rfl, HWW.out, lst_str, hword]; decide
      have qnoop : (W.toList == [110, 111, 111, 112]) = false := by rw [eq_const W _ [110, 111, 111, 112] rfl, HWW.out, lst_str, hword]; decide
      have qvrfy : (W.toList == [118, 114, 102, 121]) = false := by rw [eq_const W _ [118, 114, 102, 121] rfl, HWW.out, lst_str, hword]; decide
      have qetrn : (W.toList == [101, 116, 114, 110]) = false := by rw [eq_const W _ [101, 116, 114, 110] rfl, HWW.out, lst_str, hword]; decide
      have qauth : (W.toList == [97, 117, 116, 104]) = false := by rw [eq_const W _ [97, 117, 116, 104] rfl, HWW.out, lst_str, hword]; decide
      have qatrn : (W.toList == [97, 116, 114, 110]) = false := by rw [eq_const W _ [97, 116, 114, 110] rfl, HWW.out, lst_str, hword]; decide
      have HP := Aside0.mk (show V.parse (lst s) = (none, 501) by rw [HT1.out, HT.out, hword, told_Rset]; rfl)
      clear hword
      obtain ⟨⟨a0, a1, a2, a3, a4, a5⟩, f0, f1, f2, f3, f4, f5⟩ := cells6 (HRO.out w4 HB4.out)
      go_wp2_with (fail)
      refine bodyPost_ret (v := .tuple #[.agg zrow, .int .i64 501]) ?_ rfl ⟨uni_none HP.out rfl, ?_⟩
      · exact results_ct (by rfl) _ _ w.heap.size 26 _ (0, 0) _ rfl (row6 (HRO.out w4 HB4.out)) Tryz.underlying26 rfl (by kernel_rfl) _ rfl
      · exact below6 (HB1.out.trans (HB4.out.mono HB1.out.size)) (Nat.le_refl _)
    · have qehlo : (W.toList == [101, 104, 108, 111]) = false := by rw [eq_const W _ [101, 104, 108, 111] rfl, HWW.out, lst_str, hword]; decide
      have qhelo : (W.toList == [104, 101, 108, 111]) = false := by rw [eq_const W _ [104, 101, 108, 111] rfl, HWW.out, lst_str, hword]; decide
      have qmail : (W.toList == [109, 97, 105, 108]) = false := by rw [eq_const W _ [109, 97, 105, 108] rfl, HWW.out, lst_str, hword]; decide
      have qrcpt : (W.toList == [114, 99, 112, 116]) = false := by rw [eq_const W _ [114, 99, 112, 116] rfl, HWW.out, lst_str, hword]; decide
      have qdata : (W.toList == [100, 97, 116, 97]) = false := by rw [eq_const W _ [100, 97, 116, 97] rfl, HWW.out, lst_str, hword]; decide
      have qrset : (W.toList == [114, 115, 101, 116]) = false := by rw [eq_const W _ [114, 115, 101, 116] rfl, HWW.out, lst_str, hword]; decide
      have qquit : (W.toList == [113, 117, 105, 116]) = true := by rw [eq_const W _ [113, 117, 105, 116] rfl, HWW.out, lst_str, hword]; decide
      have qnoop : (W.toList == [110, 111, 111, 112]) = false := by rw [eq_const W _ [110, 111, 111, 112] rfl, HWW.out, lst_str, hword]; decide
      have qvrfy : (W.toList == [118, 114, 102, 121]) = false := by rw [eq_const W _ [118, 114, 102, 121] rfl, HWW.out, lst_str, hword]; decide
      have qetrn : (W.toList == [101, 116, 114, 110]) = false := by rw [eq_const W _ [101, 116, 114, 110] rfl, HWW.out, lst_str, hword]; decide
      have qauth : (W.toList == [97, 117, 116, 104]) = false := by rw [eq_const W _ [97, 117, 116, 104] rfl, HWW.out, lst_str, hword]; decide
      have qatrn : (W.toList == [97, 116, 114, 110]) = false := by rw [eq_const W _ [97, 116, 114, 110] rfl, HWW.out, lst_str, hword]; decide
      have HP := Aside0.mk (show V.parse (lst s) = (none, 501) by rw [HT1.out, HT.out, hword, told_Quit]; rfl)
      clear hword
      obtain ⟨⟨a0, a1, a2, a3, a4, a5⟩, f0, f1, f2, f3, f4, f5⟩ := cells6 (HRO.out w4 HB4.out)
      go_wp2_with (fail)
      refine bodyPost_ret (v := .tuple #[.agg zrow, .int .i64 501]) ?_ rfl ⟨uni_none HP.out rfl, ?_⟩
      · exact results_ct (by rfl) _ _ w.heap.size 26 _ (0, 0) _ rfl (row6 (HRO.out w4 HB4.out)) Tryz.underlying26 rfl (by kernel_rfl) _ rfl
      · exact below6 (HB1.out.trans (HB4.out.mono HB1.out.size)) (Nat.le_refl _)
    · have qehlo : (W.toList == [101, 104, 108, 111]) = false := by rw [eq_const W _ [101, 104, 108, 111] rfl, HWW.out, lst_str, hword]; decide
      have qhelo : (W.toList == [104, 101, 108, 111]) = false := by rw [eq_const W _ [104, 101, 108, 111] rfl, HWW.out, lst_str, hword]; decide
      have qmail : (W.toList == [109, 97, 105, 108]) = false := by rw [eq_const W _ [109, 97, 105, 108] rfl, HWW.out, lst_str, hword]; decide
      have qrcpt : (W.toList == [114, 99, 112, 116]) = false := by rw [eq_const W _ [114, 99, 112, 116] rfl, HWW.out, lst_str, hword]; decide
      have qdata : (W.toList == [100, 97, 116, 97]) = false := by rw [eq_const W _ [100, 97, 116, 97] rfl, HWW.out, lst_str, hword]; decide
      have qrset : (W.toList == [114, 115, 101, 116]) = false := by rw [eq_const W _ [114, 115, 101, 116] rfl, HWW.out, lst_str, hword]; decide
      have qquit : (W.toList == [113, 117, 105, 116]) = false := by rw [eq_const W _ [113, 117, 105, 116] rfl, HWW.out, lst_str, hword]; decide
      have qnoop : (W.toList == [110, 111, 111, 112]) = true := by rw [eq_const W _ [110, 111, 111, 112] rfl, HWW.out, lst_str, hword]; decide
      have qvrfy : (W.toList == [118, 114, 102, 121]) = false := by rw [eq_const W _ [118, 114, 102, 121] rfl, HWW.out, lst_str, hword]; decide
      have qetrn : (W.toList == [101, 116, 114, 110]) = false := by rw [eq_const W _ [101, 116, 114, 110] rfl, HWW.out, lst_str, hword]; decide
      have qauth : (W.toList == [97, 117, 116, 104]) = false := by rw [eq_const W _ [97, 117, 116, 104] rfl, HWW.out, lst_str, hword]; decide
      have qatrn : (W.toList == [97, 116, 114, 110]) = false := by rw [eq_const W _ [97, 116, 114, 110] rfl, HWW.out, lst_str, hword]; decide
      have HP := Aside0.mk (show V.parse (lst s) = (some ⟨7, [], V.noPath, []⟩, 0) by rw [HT1.out, HT.out, hword, told_Noop])
      clear hword
      obtain ⟨⟨a0, a1, a2, a3, a4, a5⟩, f0, f1, f2, f3, f4, f5⟩ := cells6 (HRO.out w4 HB4.out)
      go_wp2_with (fail)
      refine bodyPost_ret (v := .tuple #[.agg #[.int .i64 7, .string { data := #[] }, .bool false, .string { data := #[] }, .string { data := #[] }, .slice none 0 0], .int .i64 0]) ?_ rfl ⟨uni_some HP.out rfl rfl, ?_⟩
      · exact results_ct (by rfl) _ _ w.heap.size 26 _ (0, 0) _ rfl (row6 (HRO.out w4 HB4.out)) Tryz.underlying26 rfl (by kernel_rfl) _ rfl
      · exact below6 (HB1.out.trans (HB4.out.mono HB1.out.size)) (Nat.le_refl _)
    · have qehlo : (W.toList == [101, 104, 108, 111]) = false := by rw [eq_const W _ [101, 104, 108, 111] rfl, HWW.out, lst_str, hword]; decide
      have qhelo : (W.toList == [104, 101, 108, 111]) = false := by rw [eq_const W _ [104, 101, 108, 111] rfl, HWW.out, lst_str, hword]; decide
      have qmail : (W.toList == [109, 97, 105, 108]) = false := by rw [eq_const W _ [109, 97, 105, 108] rfl, HWW.out, lst_str, hword]; decide
      have qrcpt : (W.toList == [114, 99, 112, 116]) = false := by rw [eq_const W _ [114, 99, 112, 116] rfl, HWW.out, lst_str, hword]; decide
      have qdata : (W.toList == [100, 97, 116, 97]) = false := by rw [eq_const W _ [100, 97, 116, 97] rfl, HWW.out, lst_str, hword]; decide
      have qrset : (W.toList == [114, 115, 101, 116]) = false := by rw [eq_const W _ [114, 115, 101, 116] rfl, HWW.out, lst_str, hword]; decide
      have qquit : (W.toList == [113, 117, 105, 116]) = false := by rw [eq_const W _ [113, 117, 105, 116] rfl, HWW.out, lst_str, hword]; decide
      have qnoop : (W.toList == [110, 111, 111, 112]) = false := by rw [eq_const W _ [110, 111, 111, 112] rfl, HWW.out, lst_str, hword]; decide
      have qvrfy : (W.toList == [118, 114, 102, 121]) = true := by rw [eq_const W _ [118, 114, 102, 121] rfl, HWW.out, lst_str, hword]; decide
      have qetrn : (W.toList == [101, 116, 114, 110]) = false := by rw [eq_const W _ [101, 116, 114, 110] rfl, HWW.out, lst_str, hword]; decide
      have qauth : (W.toList == [97, 117, 116, 104]) = false := by rw [eq_const W _ [97, 117, 116, 104] rfl, HWW.out, lst_str, hword]; decide
      have qatrn : (W.toList == [97, 116, 114, 110]) = false := by rw [eq_const W _ [97, 116, 114, 110] rfl, HWW.out, lst_str, hword]; decide
      by_cases hr : r = []
      · have e1 : (R.toList == []) = true := by rw [eq_const R _ [] rfl, HRLL.out, decide_eq_true hr]
        have e2 : (R.toList != []) = false := by rw [bne, e1]; rfl
        have e3 : R.toList.isEmpty = true := by rw [emp_str, HRLL.out, hr]; rfl
        have HP := Aside0.mk (show V.parse (lst s) = (none, 501) by rw [HT1.out, HT.out, hword, told_Vrfy, hr]; rfl)
        clear hword hr
        obtain ⟨⟨a0, a1, a2, a3, a4, a5⟩, f0, f1, f2, f3, f4, f5⟩ := cells6 (HRO.out w4 HB4.out)
        go_wp2_with (fail)
        refine bodyPost_ret (v := .tuple #[.agg zrow, .int .i64 501]) ?_ rfl ⟨uni_none HP.out rfl, ?_⟩
        · exact results_ct (by rfl) _ _ w.heap.size 26 _ (0, 0) _ rfl (row6 (HRO.out w4 HB4.out)) Tryz.underlying26 rfl (by kernel_rfl) _ rfl
        · exact below6 (HB1.out.trans (HB4.out.mono HB1.out.size)) (Nat.le_refl _)
      · have e1 : (R.toList == []) = false := by rw [eq_const R _ [] rfl, HRLL.out, decide_eq_false hr]
        have e2 : (R.toList != []) = true := by rw [bne, e1]; rfl
        have e3 : R.toList.isEmpty = false := by rw [emp_str, HRLL.out]; cases r with | nil => exact absurd rfl hr | cons x t => rfl
        have HP := Aside0.mk (show V.parse (lst s) = (some ⟨6, r, V.noPath, []⟩, 0) by rw [HT1.out, HT.out, hword, told_Vrfy]; unfold V.refV; simp only; rw [if_neg hr])
        clear hword hr
        obtain ⟨⟨a0, a1, a2, a3, a4, a5⟩, f0, f1, f2, f3, f4, f5⟩ := cells6 (HRO.out w4 HB4.out)
        go_wp2_with (fail)
        refine bodyPost_ret (v := .tuple #[.agg #[.int .i64 6, .string R, .bool false, .string { data := #[] }, .string { data := #[] }, .slice none 0 0], .int .i64 0]) ?_ rfl ⟨uni_some HP.out HRR.out rfl, ?_⟩
        · exact results_ct (by rfl) _ _ w.heap.size 26 _ (0, 0) _ rfl (row6 (HRO.out w4 HB4.out)) Tryz.underlying26 rfl (by kernel_rfl) _ rfl
        · exact below6 (HB1.out.trans (HB4.out.mono HB1.out.size)) (Nat.le_refl _)
    · have qehlo : (W.toList == [101, 104, 108, 111]) = false := by rw [eq_const W _ [101, 104, 108, 111] rfl, HWW.out, lst_str, hword]; decide
      have qhelo : (W.toList == [104, 101, 108, 111]) = false := by rw [eq_const W _ [104, 101, 108, 111] rfl, HWW.out, lst_str, hword]; decide
      have qmail : (W.toList == [109, 97, 105, 108]) = false := by rw [eq_const W _ [109, 97, 105, 108] rfl, HWW.out, lst_str, hword]; decide
      have qrcpt : (W.toList == [114, 99, 112, 116]) = false := by rw [eq_const W _ [114, 99, 112, 116] rfl, HWW.out, lst_str, hword]; decide
      have qdata : (W.toList == [100, 97, 116, 97]) = false := by rw [eq_const W _ [100, 97, 116, 97] rfl, HWW.out, lst_str, hword]; decide
      have qrset : (W.toList == [114, 115, 101, 116]) = false := by rw [eq_const W _ [114, 115, 101, 116] rfl, HWW.out, lst_str, hword]; decide
      have qquit : (W.toList == [113, 117, 105, 116]) = false := by rw [eq_const W _ [113, 117, 105, 116] rfl, HWW.out, lst_str, hword]; decide
      have qnoop : (W.toList == [110, 111, 111, 112]) = false := by rw [eq_const W _ [110, 111, 111, 112] rfl, HWW.out, lst_str, hword]; decide
      have qvrfy : (W.toList == [118, 114, 102, 121]) = false := by rw [eq_const W _ [118, 114, 102, 121] rfl, HWW.out, lst_str, hword]; decide
      have qetrn : (W.toList == [101, 116, 114, 110]) = true := by rw [eq_const W _ [101, 116, 114, 110] rfl, HWW.out, lst_str, hword]; decide
      have qauth : (W.toList == [97, 117, 116, 104]) = false := by rw [eq_const W _ [97, 117, 116, 104] rfl, HWW.out, lst_str, hword]; decide
      have qatrn : (W.toList == [97, 116, 114, 110]) = false := by rw [eq_const W _ [97, 116, 114, 110] rfl, HWW.out, lst_str, hword]; decide
      have hdo := fun w => rdomain_any R w (by have := HRS.out; omega)
      rw [HRLL.out] at hdo
      have HDO := Aside0.mk hdo
      clear hdo
      cases hd : V.domain r with
      | true =>
        have HP := Aside0.mk (show V.parse (lst s) = (some ⟨9, r, V.noPath, []⟩, 0) by rw [HT1.out, HT.out, hword, told_Etrn]; unfold V.refN; simp only; rw [if_pos hd])
        have HDD := Aside0.mk hd
        clear hword hd
        go_wp2_with (first | (go_at_call 26; (with_reducible refine Calls.mono (HDO.out _) ?_); rintro e w5 ⟨rfl, h⟩; have H5 := Aside0.mk (HB4.out.trans ((drawn_below h).mono HB4.out.size)); clear h; rw [HDD.out]; obtain ⟨⟨a0, a1, a2, a3, a4, a5⟩, f0, f1, f2, f3, f4, f5⟩ := cells6 (HRO.out w5 H5.out)))
        refine bodyPost_ret (v := .tuple #[.agg #[.int .i64 9, .string R, .bool false, .string { data := #[] }, .string { data := #[] }, .slice none 0 0], .int .i64 0]) ?_ rfl ⟨uni_some HP.out HRR.out rfl, ?_⟩
        · exact results_ct (by rfl) _ _ w.heap.size 26 _ (0, 0) _ rfl (row6 (HRO.out w5 H5.out)) Tryz.underlying26 rfl (by kernel_rfl) _ rfl
        · exact below6 (HB1.out.trans (H5.out.mono HB1.out.size)) (Nat.le_refl _)
      | false =>
        have HP := Aside0.mk (show V.parse (lst s) = (none, 501) by rw [HT1.out, HT.out, hword, told_Etrn]; unfold V.refN; simp only; rw [if_neg (by rw [hd]; decide)])
        have HDD := Aside0.mk hd
        clear hword hd
        go_wp2_with (first | (go_at_call 26; (with_reducible refine Calls.mono (HDO.out _) ?_); rintro e w5 ⟨rfl, h⟩; have H5 := Aside0.mk (HB4.out.trans ((drawn_below h).mono HB4.out.size)); clear h; rw [HDD.out]; obtain ⟨⟨a0, a1, a2, a3, a4, a5⟩, f0, f1, f2, f3, f4, f5⟩ := cells6 (HRO.out w5 H5.out)))
        refine bodyPost_ret (v := .tuple #[.agg zrow, .int .i64 501]) ?_ rfl ⟨uni_none HP.out rfl, ?_⟩
        · exact results_ct (by rfl) _ _ w.heap.size 26 _ (0, 0) _ rfl (row6 (HRO.out w5 H5.out)) Tryz.underlying26 rfl (by kernel_rfl) _ rfl
        · exact below6 (HB1.out.trans (H5.out.mono HB1.out.size)) (Nat.le_refl _)
    · have qehlo : (W.toList == [101, 104, 108, 111]) = false := by rw [eq_const W _ [101, 104, 108, 111] rfl, HWW.out, lst_str, hword]; decide
      have qhelo : (W.toList == [104, 101, 108, 111]) = false := by rw [eq_const W _ [104, 101, 108, 111] rfl, HWW.out, lst_str, hword]; decide
      have qmail : (W.toList == [109, 97, 105, 108]) = false := by rw [eq_const W _ [109, 97, 105, 108] rfl, HWW.out, lst_str, hword]; decide
      have qrcpt : (W.toList == [114, 99, 112, 116]) = false := by rw [eq_const W _ [114, 99, 112, 116] rfl, HWW.out, lst_str, hword]; decide
      have qdata : (W.toList == [100, 97, 116, 97]) = false := by rw [eq_const W _ [100, 97, 116, 97] rfl, HWW.out, lst_str, hword]; decide
      have qrset : (W.toList == [114, 115, 101, 116]) = false := by rw [eq_const W _ [114, 115, 101, 116] rfl, HWW.out, lst_str, hword]; decide
      have qquit : (W.toList == [113, 117, 105, 116]) = false := by rw [eq_const W _ [113, 117, 105, 116] rfl, HWW.out, lst_str, hword]; decide
      have qnoop : (W.toList == [110, 111, 111, 112]) = false := by rw [eq_const W _ [110, 111, 111, 112] rfl, HWW.out, lst_str, hword]; decide
      have qvrfy : (W.toList == [118, 114, 102, 121]) = false := by rw [eq_const W _ [118, 114, 102, 121] rfl, HWW.out, lst_str, hword]; decide
      have qetrn : (W.toList == [101, 116, 114, 110]) = false := by rw [eq_const W _ [101, 116, 114, 110] rfl, HWW.out, lst_str, hword]; decide
      have qauth : (W.toList == [97, 117, 116, 104]) = true := by rw [eq_const W _ [97, 117, 116, 104] rfl, HWW.out, lst_str, hword]; decide
      have qatrn : (W.toList == [97, 116, 114, 110]) = false := by rw [eq_const W _ [97, 116, 114, 110] rfl, HWW.out, lst_str, hword]; decide
      have hfo := fun w => rfold_any R w (by have := HRS.out; omega)
      have hme := fun w => rmech_any R w (by have := HRS.out; omega)
      rw [HRLL.out] at hfo hme
      have hpv := HT1.out
      rw [HT.out, hword, told_Auth] at hpv
      unfold V.refU at hpv
      simp only [Option.getD_some] at hpv
      clear hword
      obtain ⟨F, hF⟩ : ∃ F, F = str (V.fold r) := ⟨_, rfl⟩
      rw [← hF] at hfo
      have HFO := Aside0.mk hfo
      clear hfo
      by_cases hc : V.fold r = [99, 114, 97, 109, 45, 109, 100, 53]
      · rw [if_pos hc] at hpv
        have HP := Aside0.mk hpv
        have e1 : (F.toList == [99, 114, 97, 109, 45, 109, 100, 53]) = true := by rw [eq_const F _ [99, 114, 97, 109, 45, 109, 100, 53] rfl, hF, lst_str, decide_eq_true hc]
        clear hpv hc hF hme
        go_wp2_with (first | (go_at_call 29; (with_reducible refine Calls.mono (HFO.out _) ?_); rintro e w5 ⟨rfl, h⟩; have H5 := Aside0.mk (HB4.out.trans (h.mono HB4.out.size)); clear h; obtain ⟨⟨a0, a1, a2, a3, a4, a5⟩, f0, f1, f2, f3, f4, f5⟩ := cells6 (HRO.out w5 H5.out)))
        refine bodyPost_ret (v := .tuple #[.agg #[.int .i64 10, .string { data := #[] }, .bool false, .string { data := #[] }, .string { data := #[] }, .slice none 0 0], .int .i64 0]) ?_ rfl ⟨uni_some HP.out rfl rfl, ?_⟩
        · exact results_ct (by rfl) _ _ w.heap.size 26 _ (0, 0) _ rfl (row6 (HRO.out w5 H5.out)) Tryz.underlying26 rfl (by kernel_rfl) _ rfl
        · exact below6 (HB1.out.trans (H5.out.mono HB1.out.size)) (Nat.le_refl _)
      · rw [if_neg hc] at hpv
        have e1 : (F.toList == [99, 114, 97, 109, 45, 109, 100, 53]) = false := by rw [eq_const F _ [99, 114, 97, 109, 45, 109, 100, 53] rfl, hF, lst_str, decide_eq_false hc]
        clear hc hF
        obtain ⟨D, hD⟩ : ∃ D, D = (r.all goodL && !r.isEmpty) := ⟨_, rfl⟩
        rw [← hD] at hme
        have HME := Aside0.mk hme
        clear hme
        cases D with
        | true =>
          have HP := Aside0.mk (show V.parse (lst s) = (none, 504) from hpv.trans (if_pos hD.symm))
          clear hpv hD
          go_wp2_with (first | (go_at_call 29; (with_reducible refine Calls.mono (HFO.out _) ?_); rintro e w5 ⟨rfl, h⟩; have H5 := Aside0.mk (HB4.out.trans (h.mono HB4.out.size)); clear h) | (go_at_call 30; (with_reducible refine Calls.mono (HME.out _) ?_); rintro e w6 ⟨rfl, h⟩; have H6 := Aside0.mk (H5.out.trans ((drawn_below h).mono H5.out.size)); clear h; obtain ⟨⟨a0, a1, a2, a3, a4, a5⟩, f0, f1, f2, f3, f4, f5⟩ := cells6 (HRO.out w6 H6.out)))
          refine bodyPost_ret (v := .tuple #[.agg zrow, .int .i64 504]) ?_ rfl ⟨uni_none HP.out rfl, ?_⟩
          · exact results_ct (by rfl) _ _ w.heap.size 26 _ (0, 0) _ rfl (row6 (HRO.out w6 H6.out)) Tryz.underlying26 rfl (by kernel_rfl) _ rfl
          · exact below6 (HB1.out.trans (H6.out.mono HB1.out.size)) (Nat.le_refl _)
        | false =>
          have HP := Aside0.mk (show V.parse (lst s) = (none, 501) from hpv.trans (if_neg (by intro e; rw [show (r.all goodL && !r.isEmpty) = true from e] at hD; exact absurd hD (by decide))))
          clear hpv hD
          go_wp2_with (first | (go_at_call 29; (with_reducible refine Calls.mono (HFO.out _) ?_); rintro e w5 ⟨rfl, h⟩; have H5 := Aside0.mk (HB4.out.trans (h.mono HB4.out.size)); clear h) | (go_at_call 30; (with_reducible refine Calls.mono (HME.out _) ?_); rintro e w6 ⟨rfl, h⟩; have H6 := Aside0.mk (H5.out.trans ((drawn_below h).mono H5.out.size)); clear h; obtain ⟨⟨a0, a1, a2, a3, a4, a5⟩, f0, f1, f2, f3, f4, f5⟩ := cells6 (HRO.out w6 H6.out)))
          refine bodyPost_ret (v := .tuple #[.agg zrow, .int .i64 501]) ?_ rfl ⟨uni_none HP.out rfl, ?_⟩
          · exact results_ct (by rfl) _ _ w.heap.size 26 _ (0, 0) _ rfl (row6 (HRO.out w6 H6.out)) Tryz.underlying26 rfl (by kernel_rfl) _ rfl
          · exact below6 (HB1.out.trans (H6.out.mono HB1.out.size)) (Nat.le_refl _)
    · have qehlo : (W.toList == [101, 104, 108, 111]) = false := by rw [eq_const W _ [101, 104, 108, 111] rfl, HWW.out, lst_str, hword]; decide
      have qhelo : (W.toList == [104, 101, 108, 111]) = false := by rw [eq_const W _ [104, 101, 108, 111] rfl, HWW.out, lst_str, hword]; decide
      have qmail : (W.toList == [109, 97, 105, 108]) = false := by rw [eq_const W _ [109, 97, 105, 108] rfl, HWW.out, lst_str, hword]; decide
      have qrcpt : (W.toList == [114, 99, 112, 116]) = false := by rw [eq_const W _ [114, 99, 112, 116] rfl, HWW.out, lst_str, hword]; decide
      have qdata : (W.toList == [100, 97, 116, 97]) = false := by rw [eq_const W _ [100, 97, 116, 97] rfl, HWW.out, lst_str, hword]; decide
      have qrset : (W.toList == [114, 115, 101, 116]) = false := by rw [eq_const W _ [114, 115, 101, 116] rfl, HWW.out, lst_str, hword]; decide
      have qquit : (W.toList == [113, 117, 105, 116]) = false := by rw [eq_const W _ [113, 117, 105, 116] rfl, HWW.out, lst_str, hword]; decide
      have qnoop : (W.toList == [110, 111, 111, 112]) = false := by rw [eq_const W _ [110, 111, 111, 112] rfl, HWW.out, lst_str, hword]; decide
      have qvrfy : (W.toList == [118, 114, 102, 121]) = false := by rw [eq_const W _ [118, 114, 102, 121] rfl, HWW.out, lst_str, hword]; decide
      have qetrn : (W.toList == [101, 116, 114, 110]) = false := by rw [eq_const W _ [101, 116, 114, 110] rfl, HWW.out, lst_str, hword]; decide
      have qauth : (W.toList == [97, 117, 116, 104]) = false := by rw [eq_const W _ [97, 117, 116, 104] rfl, HWW.out, lst_str, hword]; decide
      have qatrn : (W.toList == [97, 116, 114, 110]) = true := by rw [eq_const W _ [97, 116, 114, 110] rfl, HWW.out, lst_str, hword]; decide
      have hdo := fun w => rdomain_any R w (by have := HRS.out; omega)
      rw [HRLL.out] at hdo
      have HDO := Aside0.mk hdo
      clear hdo
      cases hd : V.domain r with
      | true =>
        have HP := Aside0.mk (show V.parse (lst s) = (some ⟨11, r, V.noPath, []⟩, 0) by rw [HT1.out, HT.out, hword, told_Atrn]; unfold V.refT; simp only; rw [if_pos hd])
        have HDD := Aside0.mk hd
        clear hword hd
        go_wp2_with (first | (go_at_call 26; (with_reducible refine Calls.mono (HDO.out _) ?_); rintro e w5 ⟨rfl, h⟩; have H5 := Aside0.mk (HB4.out.trans ((drawn_below h).mono HB4.out.size)); clear h; rw [HDD.out]; obtain ⟨⟨a0, a1, a2, a3, a4, a5⟩, f0, f1, f2, f3, f4, f5⟩ := cells6 (HRO.out w5 H5.out)))
        refine bodyPost_ret (v := .tuple #[.agg #[.int .i64 11, .string R, .bool false, .string { data := #[] }, .string { data := #[] }, .slice none 0 0], .int .i64 0]) ?_ rfl ⟨uni_some HP.out HRR.out rfl, ?_⟩
        · exact results_ct (by rfl) _ _ w.heap.size 26 _ (0, 0) _ rfl (row6 (HRO.out w5 H5.out)) Tryz.underlying26 rfl (by kernel_rfl) _ rfl
        · exact below6 (HB1.out.trans (H5.out.mono HB1.out.size)) (Nat.le_refl _)
      | false =>
        have HP := Aside0.mk (show V.parse (lst s) = (none, 501) by rw [HT1.out, HT.out, hword, told_Atrn]; unfold V.refT; simp only; rw [if_neg (by rw [hd]; decide)])
        have HDD := Aside0.mk hd
        clear hword hd
        go_wp2_with (first | (go_at_call 26; (with_reducible refine Calls.mono (HDO.out _) ?_); rintro e w5 ⟨rfl, h⟩; have H5 := Aside0.mk (HB4.out.trans ((drawn_below h).mono HB4.out.size)); clear h; rw [HDD.out]; obtain ⟨⟨a0, a1, a2, a3, a4, a5⟩, f0, f1, f2, f3, f4, f5⟩ := cells6 (HRO.out w5 H5.out)))
        refine bodyPost_ret (v := .tuple #[.agg zrow, .int .i64 501]) ?_ rfl ⟨uni_none HP.out rfl, ?_⟩
        · exact results_ct (by rfl) _ _ w.heap.size 26 _ (0, 0) _ rfl (row6 (HRO.out w5 H5.out)) Tryz.underlying26 rfl (by kernel_rfl) _ rfl
        · exact below6 (HB1.out.trans (H5.out.mono HB1.out.size)) (Nat.le_refl _)
end Go.Proofs.YteiknmcmaemcoaaGreatDoor
/- heavy: what is not heavy is small. -/
namespace Go.Proofs.YteiknmcmaemcoaaGreatDoor
open Go.RowKit Go.Lib
open Go.Proofs.YteiknmcmaemcoaaGreatDoorW.PrintWords Go.Proofs.YteiknmcmaemcoaaGreatDoorW.PrintLast Go.Proofs.YteiknmcmaemcoaaGreatDoorW.PrintMore
set_option linter.unusedVariables false
set_option linter.unusedSimpArgs false
/-- One parameter more, as it is counted. -/
def V.hstep (n : Int) (p : Prm) : Int := wrap64 (wrap64 (n + p.1.length) + p.2.length)
def V.hsum (a : Int) (l : List Prm) : Int := l.foldl V.hstep a
/-- What is counted ahead of the parameters. -/
def V.hbase (c : V.Cmd) : Int := wrap64 (wrap64 ((c.text.length : Int) + c.path.loc.length) + c.path.dom.length)
def V.heavy (c : V.Cmd) : Bool := decide (3000 < V.hsum (V.hbase c) c.prms) || decide (20 < c.prms.length)
theorem hsum_take (a : Int) (l : List Prm) (n : Nat) (h : n < l.length) (x : Prm) (hx : x = l.getD n ([], [])) : V.hsum a (l.take (n + 1)) = V.hstep (V.hsum a (l.take n)) x := by
  have e : l.take (n + 1) = l.take n ++ [x] := by
    rw [List.take_succ_eq_append_getElem h, hx]; simp [List.getD_eq_getElem?_getD, h]
  unfold V.hsum
  rw [e, List.foldl_append]
  rfl
theorem hstep_eq (a : Int) (p : Prm) (ha : 0 ≤ a) (ha2 : a ≤ 9000000000000000000) (h1 : p.1.length ≤ 140737488351232) (h2 : p.2.length ≤ 140737488351232) : V.hstep a p = a + p.1.length + p.2.length := by
  unfold V.hstep
  have e : wrap64 (a + (p.1.length : Int)) = a + p.1.length := by unfold wrap64; omega
  rw [e]
  unfold wrap64; omega
theorem hsum_ge : ∀ (l : List Prm) (a : Int) (m : Nat), l.length ≤ m → 0 ≤ a → a + 300000000000000 * m ≤ 9000000000000000000 → (∀ p ∈ l, p.1.length ≤ 140737488351232 ∧ p.2.length ≤ 140737488351232) → a + (l.flatMap V.prmB).length ≤ V.hsum a l + 2 * l.length
  | [], a, m, _, _, _, _ => by simp [V.hsum]
  | p :: l, a, 0, hl, _, _, _ => by simp at hl
  | p :: l, a, m + 1, hl, h0, hm, hp => by
    obtain ⟨h1, h2⟩ := hp p (by simp)
    have e := hstep_eq a p h0 (by omega) h1 h2
    have ih := hsum_ge l (V.hstep a p) m (by simp at hl; omega) (by rw [e]; omega) (by rw [e]; omega) (fun q hq => hp q (by simp [hq]))
    have e2 : V.hsum a (p :: l) = V.hsum (V.hstep a p) l := rfl
    rw [e2, List.flatMap_cons, List.length_append, List.length_cons]
    have e3 : (V.prmB p).length = p.1.length + p.2.length + 2 := by unfold V.prmB; simp; omega
    rw [e] at ih
    rw [e3]
    rw [e]
    omega
theorem heavy_fit (c : V.Cmd) (hc : OkCmd c) (h : V.heavy c = false) : Fit c ∧ c.text.length ≤ 3040 ∧ c.path.loc.length ≤ 3040 ∧ c.path.dom.length ≤ 3040 := by
  obtain ⟨k1, k2, ⟨_, k3, k4⟩, k5, k6⟩ := hc
  have k2' : c.text.length ≤ 140737488351232 := by have : (str c.text).size ≤ _ := k2; rwa [str_size] at this
  have k3' : c.path.loc.length ≤ 140737488351232 := by have : (str c.path.loc).size ≤ _ := k3; rwa [str_size] at this
  have k4' : c.path.dom.length ≤ 140737488351232 := by have : (str c.path.dom).size ≤ _ := k4; rwa [str_size] at this
  have k6' : ∀ p ∈ c.prms, p.1.length ≤ 140737488351232 ∧ p.2.length ≤ 140737488351232 := by
    intro p hp
    obtain ⟨g1, g2⟩ := k6 p hp
    have g1' : (str p.1).size ≤ _ := g1
    have g2' : (str p.2).size ≤ _ := g2
    rw [str_size] at g1' g2'
    exact ⟨g1', g2'⟩
  unfold V.heavy at h
  rw [Bool.or_eq_false_iff] at h
  obtain ⟨h1, h2⟩ := h
  have h1' := of_decide_eq_false h1
  have h2' := of_decide_eq_false h2
  have eb : V.hbase c = (c.text.length : Int) + c.path.loc.length + c.path.dom.length := by
    unfold V.hbase
    have e : wrap64 ((c.text.length : Int) + c.path.loc.length) = (c.text.length : Int) + c.path.loc.length := by unfold wrap64; omega
    rw [e]
    unfold wrap64; omega
  have hs := hsum_ge c.prms (V.hbase c) 20 (by omega) (by rw [eb]; omega) (by rw [eb]; omega) k6'
  rw [eb] at hs
  rw [eb] at h1'
  exact ⟨⟨k1, by omega, by omega, by omega, by omega, by omega⟩, by omega, by omega, by omega⟩
set_option maxRecDepth 100000 in
set_option maxHeartbeats 4000000 in
theorem heavy_any (c : V.Cmd) (A : Option Addr) (q : Nat) (w : World) (hx : Kd.C kp w A c.prms.length c.prms) (hc : OkCmd c) :
    Calls Tryz.prog 5 #[cagg c A q] w fun e w' => e = .returned (.bool (V.heavy c)) ∧ Below w.heap.size w w' := by
  obtain ⟨T, hT⟩ : ∃ T, T = V.heavy c := ⟨_, rfl⟩
  rw [← hT]
  have hl0 : c.prms.length ≤ 140737488351232 := hc.2.2.2.1
  have hlt0 : (str c.text).size = c.text.length := str_size _
  have hll0 : (str c.path.loc).size = c.path.loc.length := str_size _
  have hld0 : (str c.path.dom).size = c.path.dom.length := str_size _
  obtain ⟨bs, hbs⟩ : ∃ bs, bs = V.hbase c := ⟨_, rfl⟩
  have hbs2 : bs = wrap64 (wrap64 (((str c.text).size : Int) + ((str c.path.loc).size : Int)) + ((str c.path.dom).size : Int)) := by rw [hbs, hlt0, hll0, hld0]; rfl
  unfold V.heavy at hT
  rw [← hbs] at hT
  obtain ⟨k, t, p, xs⟩ := c
  simp only at hx hT hbs2 hl0 ⊢
  have HT := Aside0.mk hT
  have HBS := Aside0.mk hbs2
  obtain ⟨w1, hw1⟩ : ∃ w1, w1 = (w.alloc (.cells #[.int .i64 k, .string (str t), .bool p.null, .string (str p.loc), .string (str p.dom), .slice A xs.length q] 26)) := ⟨_, rfl⟩
  have hb1 : Below w.heap.size w w1 := by rw [hw1]; exact (Below.refl _ w).alloc (Nat.le_refl _) _
  have hra : w1.heap[w.heap.size]? = some (.cells #[.int .i64 k, .string (str t), .bool p.null, .string (str p.loc), .string (str p.dom), .slice A xs.length q] 26 (0, 0)) := by
    rw [hw1]; exact heap_alloc_new _ _
  have hsb : w.heap.size < w1.heap.size := (Array.getElem?_eq_some_iff.1 hra).1
  have hrows : ∀ wx, Below w1.heap.size w1 wx → wx.heap[w.heap.size]? = some (.cells #[.int .i64 k, .string (str t), .bool p.null, .string (str p.loc), .string (str p.dom), .slice A xs.length q] 26 (0, 0)) := fun wx h => (h.block _ hsb).trans hra
  have HRO := Aside0.mk hrows
  have HX := Aside0.mk (Kd.C_below hx hb1)
  have HB1 := Aside0.mk hb1
  obtain ⟨⟨a0, a1, a2, a3, a4, a5⟩, _⟩ := cells6 hra
  clear hT hb1 hx hra hsb hrows hbs2 hbs hlt0 hll0 hld0 hc
  go_enter Tryz.func5, Tryz.ntmps5
  go_upto_region 1 with (fail)
  rw [← hw1]
  clear hw1
  go_upto_region 2 with (fail)
  rw [← HBS.out]
  clear a0 a1 a2 a3 a4 a5
  go_wp2_with (fail)
  go_loopg [3, 4] xs.length (fun g v3 v4 wr => ∃ n : Nat, n ≤ xs.length ∧ g + n = xs.length ∧ v3 = .int .i64 (V.hsum bs (xs.take n)) ∧ v4 = .int .i64 n ∧ Aside0 (Drawn0 w1 wr))
  case atStart => exact ⟨0, by omega, by omega, rfl, rfl, ⟨Drawn0.refl _⟩⟩
  case round =>
    obtain ⟨n, hn2, hg, rfl, rfl, HD⟩ := hrel
    obtain ⟨wx, rfl⟩ : ∃ wz : World, wz = wr := ⟨_, rfl⟩
    obtain ⟨⟨a0, a1, a2, a3, a4, a5⟩, _⟩ := cells6 (HRO.out _ (drawn_below HD.out))
    by_cases hlt : n < xs.length
    · obtain ⟨x, hx⟩ : ∃ x, x = xs.getD n ([], []) := ⟨_, rfl⟩
      obtain ⟨ad, rfl, p0, p1'⟩ := kp_at (Kd.C_below HX.out (drawn_below HD.out)) n hlt x hx
      have hst := hsum_take bs xs n hlt x hx
      have hz1 : (str x.1).size = x.1.length := str_size _
      have hz2 : (str x.2).size = x.2.length := str_size _
      have HST := Aside0.mk hst
      have HZ1 := Aside0.mk hz1
      have HZ2 := Aside0.mk hz2
      obtain ⟨m, hm⟩ : ∃ m, m = V.hsum bs (xs.take n) := ⟨_, rfl⟩
      rw [← hm]
      have HM := Aside0.mk hm
      have hlt' : (n : Int) < (xs.length : Int) := by omega
      have h0 : (0 : Int) ≤ (n : Int) := by omega
      clear hx hst hz1 hz2 hm
      go_wp2_with (fail)
      repeat (go_quiet (fail); try go_wp2_with (fail))
      go_roundg (gk - 1)
      case measure => omega
      case rel =>
        refine ⟨n + 1, by omega, by omega, ?_, by go_num, ⟨by repeat (first | exact Drawn0.refl _ | exact HD.out | apply Drawn0.step)⟩⟩
        rw [HST.out, ← HM.out]
        unfold V.hstep
        rw [HZ1.out, HZ2.out]
    · have hne : n = xs.length := by omega
      subst hne
      obtain ⟨m, hm⟩ : ∃ m, m = V.hsum bs (xs.take xs.length) := ⟨_, rfl⟩
      rw [← hm]
      have hm2 : V.hsum bs xs = m := by rw [hm, List.take_length]
      have HM := Aside0.mk hm2
      have t1 : decide ((xs.length : Int) < (xs.length : Int)) = false := by simp
      clear hm hm2 hlt hg hn2
      by_cases h3 : 3000 < m
      · have HTF := Aside0.mk (show T = true by rw [HT.out, HM.out]; simp [h3])
        go_wp2_with (fail)
        go_ret
        exact ⟨by rw [HTF.out]; rfl, HB1.out.trans ((drawn_below HD.out).mono HB1.out.size)⟩
      · have h3' : decide (3000 < m) = false := by simpa using h3
        have HTF := Aside0.mk (show T = decide ((20 : Int) < (xs.length : Int)) by rw [HT.out, HM.out, h3']; simp; omega)
        go_wp2_with (fail)
        go_ret
        exact ⟨by rw [HTF.out]; rfl, HB1.out.trans ((drawn_below HD.out).mono HB1.out.size)⟩
end Go.Proofs.YteiknmcmaemcoaaGreatDoor
