/- Mailboxes in plain Lean: what path's functions answer. No Go. -/
import Derived.Test.YteiknmcmaemcoaaDoorWLast
import Derived.Lib.SplitLaws
import Derived.Lib.Strings
namespace Go.Proofs.YteiknmcmaemcoaaDoor.V
set_option linter.unusedVariables false
set_option linter.unusedSimpArgs false
abbrev Bs := List UInt8
def low (c : UInt8) : UInt8 := if 65 ≤ c ∧ c ≤ 90 then c + 32 else c
/-- A text with small letters. -/
def fold (l : Bs) : Bs := l.map low
def isPlain (c : UInt8) : Bool := decide (97 ≤ c ∧ c ≤ 122) || decide (65 ≤ c ∧ c ≤ 90) || decide (48 ≤ c ∧ c ≤ 57)
def marks : Bs := [33, 35, 36, 37, 38, 39, 42, 43, 45, 47, 61, 63, 94, 95, 96, 123, 124, 125, 126]
def atom (l : Bs) : Bool := l.all (fun c => isPlain c || marks.contains c) && !l.isEmpty
def label (l : Bs) : Bool := l.all (fun c => isPlain c || c == 45) && !l.isEmpty && decide (l.length ≤ 63) && l.head? != some 45 && l.getLast? != some 45
/-- The parts between signs. -/
def splitOn (c : UInt8) : Bs → List Bs
  | [] => [[]]
  | x :: l => if x = c then [] :: splitOn c l else match splitOn c l with
    | [] => [[x]]
    | h :: t => (x :: h) :: t
def parts (l : Bs) (most : Nat) (is : Bs → Bool) : Bool := decide (l.length ≤ most) && (splitOn 46 l).all is
def localOk (l : Bs) : Bool := parts l 64 atom
def domain (l : Bs) : Bool := parts l 255 label
structure Path where
  null : Bool
  loc : Bs
  dom : Bs
deriving DecidableEq
def noPath : Path := ⟨false, [], []⟩
def check (p : Path) : Bool := (p.null && p.loc.isEmpty && p.dom.isEmpty) || (!p.null && localOk p.loc && domain p.dom)
/-- A mailbox's text; of one that is none: none. -/
def ptext (p : Path) : Option Bs := if check p then (if p.null then some [60, 62] else some (60 :: p.loc ++ 64 :: p.dom ++ [62])) else none
/-- What stands ahead of a sign, and behind it. -/
def cutAt (c : UInt8) : Bs → Option (Bs × Bs)
  | [] => none
  | x :: l => if x = c then some ([], l) else match cutAt c l with
    | none => none
    | some (a, b) => some (x :: a, b)
def pparse (l : Bs) : Option Path :=
  if l = [60, 62] then some ⟨true, [], []⟩ else
  if l.head? = some 60 ∧ l.tail.getLast? = some 62 then
    match cutAt 64 (l.tail.dropLast) with
    | none => none
    | some (a, b) => if check ⟨false, a, b⟩ then some ⟨false, a, b⟩ else none
  else none
theorem splitOn_ne (c : UInt8) (l : Bs) : splitOn c l ≠ [] := by
  cases l with
  | nil => simp [splitOn]
  | cons x l =>
    unfold splitOn
    split
    · simp
    · split <;> simp
theorem index_one (c : UInt8) : ∀ l : Bs, Lib.index l [c] = match cutAt c l with | none => -1 | some (a, _) => (a.length : Int)
  | [] => by simp [Lib.index, cutAt]
  | x :: l => by
    have ih := index_one c l
    unfold Lib.index cutAt
    by_cases h : x = c
    · subst h; simp [List.isPrefixOf]
    · have h' : ([c] : Bs).isPrefixOf (x :: l) = false := by simp [List.isPrefixOf, Ne.symm h]
      rw [h', if_neg h, ih]
      cases hc : cutAt c l with
      | none => simp
      | some ab =>
        obtain ⟨a, b⟩ := ab
        simp
theorem cutAt_some {c : UInt8} : ∀ {l a b : Bs}, cutAt c l = some (a, b) → l = a ++ c :: b ∧ c ∉ a
  | [], a, b, h => by simp [cutAt] at h
  | x :: l, a, b, h => by
    unfold cutAt at h
    by_cases hx : x = c
    · rw [if_pos hx] at h; simp at h; obtain ⟨rfl, rfl⟩ := h; simp [hx]
    · rw [if_neg hx] at h
      cases hc : cutAt c l with
      | none => rw [hc] at h; simp at h
      | some ab =>
        obtain ⟨a', b'⟩ := ab
        rw [hc] at h; simp at h
        obtain ⟨rfl, rfl⟩ := h
        obtain ⟨h1, h2⟩ := cutAt_some hc
        exact ⟨by simp [h1], by simp [h2, Ne.symm hx]⟩
theorem cutAt_none {c : UInt8} : ∀ {l : Bs}, cutAt c l = none ↔ c ∉ l
  | [] => by simp [cutAt]
  | x :: l => by
    unfold cutAt
    by_cases hx : x = c
    · simp [hx]
    · rw [if_neg hx]
      have ih := cutAt_none (c := c) (l := l)
      cases hc : cutAt c l with
      | none => simp [Ne.symm hx, ih.1 hc]
      | some ab =>
        have : ¬ c ∉ l := fun h => by rw [ih.2 h] at hc; cases hc
        simp at this
        simp [this]
theorem cut_one (c : UInt8) (l : Bs) : Lib.cut l [c] = match cutAt c l with | none => (l, [], false) | some (a, b) => (a, b, true) := by
  unfold Lib.cut
  rw [index_one]
  cases hc : cutAt c l with
  | none => simp
  | some ab =>
    obtain ⟨a, b⟩ := ab
    obtain ⟨rfl, h⟩ := cutAt_some hc
    simp
theorem splitOn_cut (c : UInt8) : ∀ l : Bs, splitOn c l = match cutAt c l with | none => [l] | some (a, b) => a :: splitOn c b
  | [] => by simp [splitOn, cutAt]
  | x :: l => by
    have ih := splitOn_cut c l
    rw [splitOn, cutAt]
    by_cases hx : x = c
    · simp only [if_pos hx]
    · simp only [if_neg hx, ih]
      cases hc : cutAt c l with
      | none => rfl
      | some ab => obtain ⟨a, b⟩ := ab; rfl
theorem count_cut (c : UInt8) (l : Bs) : Lib.count l [c] = match cutAt c l with | none => 0 | some (_, b) => 1 + Lib.count b [c] := by
  rw [Lib.count_one]
  cases hc : cutAt c l with
  | none => simp only; exact List.count_eq_zero.2 (cutAt_none.1 hc)
  | some ab =>
    obtain ⟨a, b⟩ := ab
    obtain ⟨rfl, h⟩ := cutAt_some hc
    simp only
    rw [Lib.count_one, List.count_append, List.count_cons_self, List.count_eq_zero.2 h]
    omega
theorem splitK_one (c : UInt8) : ∀ (k : Nat) (l : Bs), Lib.count l [c] = k → Lib.splitK [c] 0 k l = splitOn c l
  | 0, l, h => by
    rw [splitOn_cut]
    rw [count_cut] at h
    cases hc : cutAt c l with
    | none => rfl
    | some ab => rw [hc] at h; simp at h
  | k + 1, l, h => by
    rw [splitOn_cut]
    rw [count_cut] at h
    cases hc : cutAt c l with
    | none => rw [hc] at h; simp at h
    | some ab =>
      obtain ⟨a, b⟩ := ab
      rw [hc] at h
      simp only at h
      unfold Lib.splitK
      rw [index_one, hc]
      have ih := splitK_one c k b (by omega)
      obtain ⟨rfl, hn⟩ := cutAt_some hc
      have h1 : ¬ ((((a.length : Int)) == -1) = true) := by simp
      simp only
      rw [if_neg h1]
      simp [ih]
theorem splitB_one (c : UInt8) (s : ByteArray) : (Lib.splitB ⟨#[c]⟩ 0 (Lib.countB s ⟨#[c]⟩) s).map (·.data.toList) = splitOn c s.data.toList := by
  rw [Lib.splitB_data]
  exact splitK_one c _ _ rfl
theorem split_list (c : UInt8) (s : ByteArray) : Lib.splitB ⟨#[c]⟩ 0 (Lib.countB s ⟨#[c]⟩) s = (splitOn c s.data.toList).map fun l => (⟨l.toArray⟩ : ByteArray) := by
  rw [← splitB_one, List.map_map]
  conv => lhs; rw [← List.map_id (Lib.splitB _ _ _ _)]
  apply List.map_congr_left
  intro x _
  rfl
theorem split_len (c : UInt8) (s : ByteArray) : Lib.countB s ⟨#[c]⟩ + 1 = (splitOn c s.data.toList).length := by
  rw [← splitB_one, List.length_map, Lib.splitB_all _ (by show 1 ≤ 1; omega) 0 _ s rfl]
theorem fold_length (l : Bs) : (fold l).length = l.length := by simp [fold]
theorem low_low (c : UInt8) : low (low c) = low c := by
  have h : ∀ n, n < 256 → low (low (UInt8.ofNat n)) = low (UInt8.ofNat n) := by decide +kernel
  have := h c.toNat c.toNat_lt
  simpa using this
theorem fold_fold (l : Bs) : fold (fold l) = fold l := by simp [fold, low_low]
theorem hasPrefix_one (c : UInt8) (l : Bs) : Lib.hasPrefix l [c] = decide (l.head? = some c) := by
  cases l with
  | nil => simp [Lib.hasPrefix, List.isPrefixOf]
  | cons x l =>
    show (c == x && List.isPrefixOf [] l) = decide (some x = some c)
    by_cases h : x = c
    · subst h; simp
    · have h2 : ¬ c = x := fun e => h e.symm
      simp [h, h2]
theorem trimPrefix_one (c : UInt8) (l : Bs) : Lib.trimPrefix l [c] = if l.head? = some c then l.tail else l := by
  unfold Lib.trimPrefix
  rw [hasPrefix_one]
  by_cases h : l.head? = some c
  · simp [h]
  · simp [h]
theorem hasSuffix_one (c : UInt8) (l : Bs) : Lib.hasSuffix l [c] = decide (l.getLast? = some c) := by
  have h : Lib.hasSuffix l [c] = Lib.hasPrefix l.reverse [c] := by
    simp [Lib.hasSuffix, Lib.hasPrefix, List.isSuffixOf]
  rw [h, hasPrefix_one, List.head?_reverse]
theorem trimSuffix_one (c : UInt8) (l : Bs) : Lib.trimSuffix l [c] = if l.getLast? = some c then l.dropLast else l := by
  unfold Lib.trimSuffix
  rw [hasSuffix_one]
  by_cases h : l.getLast? = some c
  · simp [h, List.dropLast_eq_take]
  · simp [h]
end Go.Proofs.YteiknmcmaemcoaaDoor.V
