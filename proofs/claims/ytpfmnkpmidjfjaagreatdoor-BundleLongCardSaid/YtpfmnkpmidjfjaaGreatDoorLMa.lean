/- Texts of this seat, one behind the other: the plain law, the walks. -/
import Derived.Lib.SplitLaws
import Derived.Lib.Strings
import Derived.Lib.AtoiAll
import Derived.Lib.ItoaNum
import Derived.Lib.AtoiTie
/- Mailboxes in plain Lean: what path's functions answer. No Go. -/
namespace Go.Proofs.YtpfmnkpmidjfjaaGreatDoor.V
set_option linter.unusedVariables false
set_option linter.unusedSimpArgs false
abbrev Bs := List UInt8
def low (c : UInt8) : UInt8 := if 65 ≤ c ∧ c ≤ 90 then c + 32 else c
/-- A text with small letters. -/
def fold (l : Bs) : Bs := l.map low
def isPlain (c : UInt8) : Bool := decide (97 ≤ c ∧ c ≤ 122) || decide (65 ≤ c ∧ c ≤ 90) || decide (48 ≤ c ∧ c ≤ 57)
def marks : Bs := [33, 35, 36, 37, 38, 39, 42, 43, 45, 47, 61, 63, 94, 95, 96, 123, 124, 125, 126]
def atom (l : Bs) : Bool := l.all (fun c => isPlain c || marks.contains c) && !l.isEmpty
def label (l : Bs) : Bool := l.all (fun c => isPlain c || c == 45) && !l.isEmpty && decide (l.length ≤ 63) && l.head? != some 45 && l.getLast? != some 45
/-- The parts between signs. -/
def splitOn (c : UInt8) : Bs → List Bs
  | [] => [[]]
  | x :: l => if x = c then [] :: splitOn c l else match splitOn c l with
    | [] => [[x]]
    | h :: t => (x :: h) :: t
def parts (l : Bs) (most : Nat) (is : Bs → Bool) : Bool := decide (l.length ≤ most) && (splitOn 46 l).all is
def localOk (l : Bs) : Bool := parts l 64 atom
def domain (l : Bs) : Bool := parts l 255 label
structure Path where
  null : Bool
  loc : Bs
  dom : Bs
deriving DecidableEq
def noPath : Path := ⟨false, [], []⟩
def check (p : Path) : Bool := (p.null && p.loc.isEmpty && p.dom.isEmpty) || (!p.null && localOk p.loc && domain p.dom)
/-- A mailbox's text; of one that is none: none. -/
def ptext (p : Path) : Option Bs := if check p then (if p.null then some [60, 62] else some (60 :: p.loc ++ 64 :: p.dom ++ [62])) else none
/-- What stands ahead of a sign, and behind it. -/
def cutAt (c : UInt8) : Bs → Option (Bs × Bs)
  | [] => none
  | x :: l => if x = c then some ([], l) else match cutAt c l with
    | none => none
    | some (a, b) => some (x :: a, b)
def pparse (l : Bs) : Option Path :=
  if l = [60, 62] then some ⟨true, [], []⟩ else
  if l.head? = some 60 ∧ l.tail.getLast? = some 62 then
    match cutAt 64 (l.tail.dropLast) with
    | none => none
    | some (a, b) => if check ⟨false, a, b⟩ then some ⟨false, a, b⟩ else none
  else none
theorem splitOn_ne (c : UInt8) (l : Bs) : splitOn c l ≠ [] := by
  cases l with
  | nil => simp [splitOn]
  | cons x l =>
    unfold splitOn
    split
    · simp
    · split <;> simp
theorem index_one (c : UInt8) : ∀ l : Bs, Lib.index l [c] = match cutAt c l with | none => -1 | some (a, _) => (a.length : Int)
  | [] => by simp [Lib.index, cutAt]
  | x :: l => by
    have ih := index_one c l
    unfold Lib.index cutAt
    by_cases h : x = c
    · subst h; simp [List.isPrefixOf]
    · have h' : ([c] : Bs).isPrefixOf (x :: l) = false := by simp [List.isPrefixOf, Ne.symm h]
      rw [h', if_neg h, ih]
      cases hc : cutAt c l with
      | none => simp
      | some ab =>
        obtain ⟨a, b⟩ := ab
        simp
theorem cutAt_some {c : UInt8} : ∀ {l a b : Bs}, cutAt c l = some (a, b) → l = a ++ c :: b ∧ c ∉ a
  | [], a, b, h => by simp [cutAt] at h
  | x :: l, a, b, h => by
    unfold cutAt at h
    by_cases hx : x = c
    · rw [if_pos hx] at h; simp at h; obtain ⟨rfl, rfl⟩ := h; simp [hx]
    · rw [if_neg hx] at h
      cases hc : cutAt c l with
      | none => rw [hc] at h; simp at h
      | some ab =>
        obtain ⟨a', b'⟩ := ab
        rw [hc] at h; simp at h
        obtain ⟨rfl, rfl⟩ := h
        obtain ⟨h1, h2⟩ := cutAt_some hc
        exact ⟨by simp [h1], by simp [h2, Ne.symm hx]⟩
theorem cutAt_none {c : UInt8} : ∀ {l : Bs}, cutAt c l = none ↔ c ∉ l
  | [] => by simp [cutAt]
  | x :: l => by
    unfold cutAt
    by_cases hx : x = c
    · simp [hx]
    · rw [if_neg hx]
      have ih := cutAt_none (c := c) (l := l)
      cases hc : cutAt c l with
      | none => simp [Ne.symm hx, ih.1 hc]
      | some ab =>
        have : ¬ c ∉ l := fun h => by rw [ih.2 h] at hc; cases hc
        simp at this
        simp [this]
theorem cut_one (c : UInt8) (l : Bs) : Lib.cut l [c] = match cutAt c l with | none => (l, [], false) | some (a, b) => (a, b, true) := by
  unfold Lib.cut
  rw [index_one]
  cases hc : cutAt c l with
  | none => simp
  | some ab =>
    obtain ⟨a, b⟩ := ab
    obtain ⟨rfl, h⟩ := cutAt_some hc
    simp
theorem splitOn_cut (c : UInt8) : ∀ l : Bs, splitOn c l = match cutAt c l with | none => [l] | some (a, b) => a :: splitOn c b
  | [] => by simp [splitOn, cutAt]
  | x :: l => by
    have ih := splitOn_cut c l
    rw [splitOn, cutAt]
    by_cases hx : x = c
    · simp only [if_pos hx]
    · simp only [if_neg hx, ih]
      cases hc : cutAt c l with
      | none => rfl
      | some ab => obtain ⟨a, b⟩ := ab; rfl
theorem count_cut (c : UInt8) (l : Bs) : Lib.count l [c] = match cutAt c l with | none => 0 | some (_, b) => 1 + Lib.count b [c] := by
  rw [Lib.count_one]
  cases hc : cutAt c l with
  | none => simp only; exact List.count_eq_zero.2 (cutAt_none.1 hc)
  | some ab =>
    obtain ⟨a, b⟩ := ab
    obtain ⟨rfl, h⟩ := cutAt_some hc
    simp only
    rw [Lib.count_one, List.count_append, List.count_cons_self, List.count_eq_zero.2 h]
    omega
theorem splitK_one (c : UInt8) : ∀ (k : Nat) (l : Bs), Lib.count l [c] = k → Lib.splitK [c] 0 k l = splitOn c l
  | 0, l, h => by
    rw [splitOn_cut]
    rw [count_cut] at h
    cases hc : cutAt c l with
    | none => rfl
    | some ab => rw [hc] at h; simp at h
  | k + 1, l, h => by
    rw [splitOn_cut]
    rw [count_cut] at h
    cases hc : cutAt c l with
    | none => rw [hc] at h; simp at h
    | some ab =>
      obtain ⟨a, b⟩ := ab
      rw [hc] at h
      simp only at h
      unfold Lib.splitK
      rw [index_one, hc]
      have ih := splitK_one c k b (by omega)
      obtain ⟨rfl, hn⟩ := cutAt_some hc
      have h1 : ¬ ((((a.length : Int)) == -1) = true) := by simp
      simp only
      rw [if_neg h1]
      simp [ih]
theorem splitB_one (c : UInt8) (s : ByteArray) : (Lib.splitB ⟨#[c]⟩ 0 (Lib.countB s ⟨#[c]⟩) s).map (·.data.toList) = splitOn c s.data.toList := by
  rw [Lib.splitB_data]
  exact splitK_one c _ _ rfl
theorem split_list (c : UInt8) (s : ByteArray) : Lib.splitB ⟨#[c]⟩ 0 (Lib.countB s ⟨#[c]⟩) s = (splitOn c s.data.toList).map fun l => (⟨l.toArray⟩ : ByteArray) := by
  rw [← splitB_one, List.map_map]
  conv => lhs; rw [← List.map_id (Lib.splitB _ _ _ _)]
  apply List.map_congr_left
  intro x _
  rfl
theorem split_len (c : UInt8) (s : ByteArray) : Lib.countB s ⟨#[c]⟩ + 1 = (splitOn c s.data.toList).length := by
  rw [← splitB_one, List.length_map, Lib.splitB_all _ (by show 1 ≤ 1; omega) 0 _ s rfl]
theorem hasPrefix_one (c : UInt8) (l : Bs) : Lib.hasPrefix l [c] = decide (l.head? = some c) := by
  cases l with
  | nil => simp [Lib.hasPrefix, List.isPrefixOf]
  | cons x l =>
    show (c == x && List.isPrefixOf [] l) = decide (some x = some c)
    by_cases h : x = c
    · subst h; simp
    · have h2 : ¬ c = x := fun e => h e.symm
      simp [h, h2]
theorem trimPrefix_one (c : UInt8) (l : Bs) : Lib.trimPrefix l [c] = if l.head? = some c then l.tail else l := by
  unfold Lib.trimPrefix
  rw [hasPrefix_one]
  by_cases h : l.head? = some c
  · simp [h]
  · simp [h]
theorem hasSuffix_one (c : UInt8) (l : Bs) : Lib.hasSuffix l [c] = decide (l.getLast? = some c) := by
  have h : Lib.hasSuffix l [c] = Lib.hasPrefix l.reverse [c] := by
    simp [Lib.hasSuffix, Lib.hasPrefix, List.isSuffixOf]
  rw [h, hasPrefix_one, List.head?_reverse]
theorem trimSuffix_one (c : UInt8) (l : Bs) : Lib.trimSuffix l [c] = if l.getLast? = some c then l.dropLast else l := by
  unfold Lib.trimSuffix
  rw [hasSuffix_one]
  by_cases h : l.getLast? = some c
  · simp [h, List.dropLast_eq_take]
  · simp [h]
end Go.Proofs.YtpfmnkpmidjfjaaGreatDoor.V
/- Bodies on the line and sums in plain Lean: what dots' and sums' functions answer. No Go. -/
namespace Go.Proofs.YtpfmnkpmidjfjaaGreatDoor.B
set_option linter.unusedVariables false
set_option linter.unusedSimpArgs false
abbrev Bs := List UInt8
def crlf : Bs := [13, 10]
/-- What stands ahead of the first line's end, and behind it. -/
def cut : Bs → Option (Bs × Bs)
  | [] => none
  | x :: r => if x = 13 ∧ r.head? = some 10 then some ([], r.tail) else match cut r with
    | none => none
    | some (a, b) => some (x :: a, b)
/-- What stands ahead of each line's end; what is read of the line so far stands in c, turned about. -/
def linesGo (c : Bs) : Bs → List Bs
  | [] => []
  | x :: r => if x = 10 ∧ c.head? = some 13 then c.tail.reverse :: linesGo [] r else linesGo (x :: c) r
def lines (b : Bs) : List Bs := linesGo [] b
def ended (b : Bs) : Bool := decide (2 ≤ b.length) && decide (b.drop (b.length - 2) = crlf)
/-- A line without signs of a line's end. -/
def bare (l : Bs) : Bool := l.all (fun c => !decide (c = 13) && !decide (c = 10))
/-- A body? -/
def body (b : Bs) : Bool := (b.isEmpty || ended b) && (lines b).all bare
def dotted (l : Bs) : Bs := (if l.head? = some 46 then 46 :: l else l) ++ crlf
/-- How a body stands on the line. -/
def stuff (b : Bs) : Bs := (lines b).flatMap dotted ++ [46, 13, 10]
def undot (l : Bs) : Bs := (if l.head? = some 46 then l.tail else l) ++ crlf
/-- Where a text stands in another one first. -/
def find (p : Bs) (n : Nat) : Bs → Option Nat
  | [] => if p = [] then some n else none
  | x :: r => if p.isPrefixOf (x :: r) then some n else find p (n + 1) r
/-- Where the first line that is just a dot begins. -/
def dot (b : Bs) : Option Nat := if [46, 13, 10].isPrefixOf b then some 0 else (find [13, 10, 46, 13, 10] 0 b).map (· + 2)
/-- The body that stands on the line, and what stands behind it: none by 4 (there is none), 5 (it is no body). -/
def strip (b : Bs) : Option (Bs × Nat) := match dot b with
  | none => none
  | some n => if body (b.take n) then some ((lines (b.take n)).flatMap undot, n + 3) else none
theorem cut_some : ∀ {l a b : Bs}, cut l = some (a, b) → l = a ++ 13 :: 10 :: b
  | [], a, b, h => by cases h
  | x :: r, a, b, h => by
    unfold cut at h
    by_cases hx : x = 13 ∧ r.head? = some 10
    · rw [if_pos hx] at h
      obtain ⟨rfl, rfl⟩ := Prod.mk.inj (Option.some.inj h)
      cases r with
      | nil => cases hx.2
      | cons y t =>
        have := Option.some.inj hx.2
        rw [hx.1, this]
        rfl
    · rw [if_neg hx] at h
      cases hc : cut r with
      | none => rw [hc] at h; cases h
      | some p =>
        obtain ⟨a', b'⟩ := p
        rw [hc] at h
        obtain ⟨rfl, rfl⟩ := Prod.mk.inj (Option.some.inj h)
        rw [cut_some hc]
        rfl
/-- The lines of a text, one by one. -/
theorem linesGo_cut : ∀ (l c : Bs), (c.head? = some 13 → l.head? ≠ some 10) → linesGo c l = match cut l with
    | none => []
    | some (a, b) => (c.reverse ++ a) :: linesGo [] b
  | [], c, _ => rfl
  | x :: r, c, hc => by
    have h0 : ¬ (x = 10 ∧ c.head? = some 13) := fun h => hc h.2 (by rw [h.1]; rfl)
    rw [linesGo, if_neg h0, cut]
    by_cases hx : x = 13 ∧ r.head? = some 10
    · rw [if_pos hx]
      cases r with
      | nil => cases hx.2
      | cons y t =>
        have hy : y = 10 := Option.some.inj hx.2
        rw [linesGo, if_pos ⟨hy, by rw [hx.1]; rfl⟩]
        simp
    · rw [if_neg hx, linesGo_cut r (x :: c) (fun h e => hx ⟨Option.some.inj h, e⟩)]
      cases cut r with
      | none => rfl
      | some p => simp
theorem lines_cut (l : Bs) : lines l = match cut l with
    | none => []
    | some (a, b) => a :: lines b := by
  unfold lines
  rw [linesGo_cut l [] (fun h => by cases h)]
  cases cut l with
  | none => rfl
  | some p => rfl
/-- The sum of 32 bits (of 16), a byte at a time. -/
def bit (div r : Nat) : Nat := if r % 2 = 1 then (r / 2) ^^^ div else r / 2
def bits8 (div r : Nat) : Nat := bit div (bit div (bit div (bit div (bit div (bit div (bit div (bit div r)))))))
def step (div r : Nat) (c : UInt8) : Nat := (r / 256) ^^^ bits8 div ((r % 256) ^^^ c.toNat)
def dv : Nat := 3988292384
def long (b : Bs) : Nat := (b.foldl (step dv) 4294967295) ^^^ 4294967295
theorem bit_lt (r : Nat) (h : r < 4294967296) : bit dv r < 4294967296 := by
  unfold bit
  split
  · exact Nat.xor_lt_two_pow (n := 32) (by omega) (by decide)
  · omega
theorem bits8_lt (r : Nat) (h : r < 4294967296) : bits8 dv r < 4294967296 := by
  unfold bits8
  iterate 8 refine bit_lt _ ?_
  exact h
theorem step_lt (r : Nat) (c : UInt8) (h : r < 4294967296) : step dv r c < 4294967296 := by
  unfold step
  refine Nat.xor_lt_two_pow (n := 32) (by omega) (bits8_lt _ ?_)
  exact Nat.lt_of_lt_of_le (Nat.xor_lt_two_pow (n := 8) (by omega) c.toNat_lt) (by decide)
theorem fold_lt : ∀ (b : Bs) (r : Nat), r < 4294967296 → b.foldl (step dv) r < 4294967296
  | [], r, h => h
  | c :: b, r, h => fold_lt b _ (step_lt r c h)
theorem long_lt (b : Bs) : long b < 4294967296 := by
  unfold long
  exact Nat.xor_lt_two_pow (n := 32) (fold_lt b _ (by decide)) (by decide)
end Go.Proofs.YtpfmnkpmidjfjaaGreatDoor.B
/- Bundles in plain Lean: what bundle's functions answer. No Go. -/
namespace Go.Proofs.YtpfmnkpmidjfjaaGreatDoor.B
set_option linter.unusedVariables false
set_option linter.unusedSimpArgs false
structure Mail where
  frm : V.Path
  to : List V.Path
  body : Bs
  quiet : Bool
  helo : Bs
  tm : Int
deriving DecidableEq
structure Bundle where
  origin : Int
  number : Int
  mails : List Mail
deriving DecidableEq
def noMail : Mail := ⟨V.noPath, [], [], false, [], 0⟩
def none0 : Bundle := ⟨0, 0, []⟩
/-- May a mail be in a bundle, whatever else is told of it? -/
def sole (m : Mail) : Bool := V.check m.frm && (decide (1 ≤ m.to.length) && (decide (m.to.length ≤ 8) && (m.to.all (fun p => V.check p && !p.null) && B.body m.body)))
def right (m : Mail) : Bool := sole m && (decide (m.body.length ≤ 4096) && (!m.quiet && (m.helo.isEmpty && decide (m.tm = 0))))
def check (b : Bundle) : Bool := decide (0 ≤ b.origin) && (decide (b.origin ≤ 1) && (decide (1 ≤ b.number) && (decide (b.number ≤ 65535) && (decide (1 ≤ b.mails.length) && (decide (b.mails.length ≤ 4) && b.mails.all right)))))
def wFrom : Bs := [77, 65, 73, 76, 32, 70, 82, 79, 77, 58]
def wTo : Bs := [82, 67, 80, 84, 32, 84, 79, 58]
def wData : Bs := [68, 65, 84, 65, 13, 10]
def wQuit : Bs := [81, 85, 73, 84, 13, 10]
def wBundle : Bs := [66, 85, 78, 68, 76, 69]
def box (p : V.Path) : Bs := (V.ptext p).getD []
def toLine (p : V.Path) : Bs := wTo ++ box p ++ crlf
def mailBytes (m : Mail) : Bs := wFrom ++ box m.frm ++ crlf ++ m.to.flatMap toLine ++ wData ++ (if B.body m.body then stuff m.body else [])
def commands (l : List Mail) : Bs := l.flatMap mailBytes ++ wQuit
def nums (l : List Int) : Bs := l.flatMap (fun n => 32 :: Lib.itoa n)
def head (b : Bundle) (c : Bs) : Bs := wBundle ++ nums [b.origin, b.number, b.mails.length, c.length, long c] ++ crlf
/-- A bundle's bytes, or the number of what is wrong. -/
def bytes (b : Bundle) : Bs × Int :=
  if check b then (if 4096 < (head b (commands b.mails) ++ commands b.mails).length then ([], 2) else (head b (commands b.mails) ++ commands b.mails, 0)) else ([], 5)
/-- The number of a text. -/
def number (l : Bs) : Option Int := match Lib.atoiAll l with
  | .ok v => if 0 ≤ v ∧ l.length ≤ 10 ∧ Lib.itoa v = l then some v else none
  | _ => none
/-- The numbers of words; none where one is none. -/
def numbers : List Bs → Option (List Int)
  | [] => some []
  | x :: l => match number x with
    | none => none
    | some v => match numbers l with
      | none => none
      | some vs => some (v :: vs)
/-- The first line's five numbers, and what stands behind it. -/
def headOf (t : Bs) : Option (List Int × Bs) := match B.cut t with
  | none => none
  | some (line, rest) => match V.splitOn 32 line with
    | [] => none
    | w :: ws => if ws.length = 5 ∧ w = wBundle then (match numbers ws with
      | none => none
      | some vs => if vs.getD 0 0 ≤ 1 ∧ vs.getD 3 0 = rest.length then some (vs, rest) else none) else none
/-- A line that begins so, cut off: its mailbox, and what stands behind it. -/
def cutLine (c begin_ : Bs) : Option (V.Path × Bs) := match B.cut c with
  | none => none
  | some (line, rest) => if begin_.isPrefixOf line then (match V.pparse (line.drop begin_.length) with
    | none => none
    | some p => some (p, rest)) else none
/-- Recipients, as many as there are. -/
def tos : Nat → Bs → List V.Path × Bs
  | 0, c => ([], c)
  | k + 1, c => match cutLine c wTo with
    | none => ([], c)
    | some (p, r) => (p :: (tos k r).1, (tos k r).2)
/-- A mail, and what stands behind it. -/
def mail (c : Bs) : Option (Mail × Bs) := match cutLine c wFrom with
  | none => none
  | some (p, r) => if wData.isPrefixOf (tos r.length r).2 then (match strip ((tos r.length r).2.drop 6) with
    | none => none
    | some (b, n) => some (⟨p, (tos r.length r).1, b, false, [], 0⟩, (tos r.length r).2.drop (6 + n))) else none
/-- Mails, up to so many. -/
def mails : Nat → Bs → List Mail
  | 0, _ => []
  | k + 1, c => match mail c with
    | none => []
    | some (m, r) => m :: mails k r
/-- The bundle of bytes, and the number of what is wrong. -/
def read (t : Bs) : Bundle × Int := match headOf t with
  | none => (none0, 5)
  | some (vs, c) => if vs.getD 4 0 ≠ (long c : Int) then (none0, 6) else
    if bytes ⟨vs.getD 0 0, vs.getD 1 0, mails 5 c⟩ = (t, 0) then (⟨vs.getD 0 0, vs.getD 1 0, mails 5 c⟩, 0) else (none0, 5)
def plain (m : Mail) : Mail := ⟨m.frm, m.to, m.body, false, [], 0⟩
/-- How many of the first mails make a bundle, up to so many. -/
def packGo (l : List Mail) (o n : Int) : Nat → Nat
  | 0 => 0
  | k + 1 => if (bytes ⟨o, n, (l.take (k + 1)).map plain⟩).2 = 0 then k + 1 else packGo l o n k
def pack (l : List Mail) (o n : Int) : Nat := packGo l o n (min l.length 4)
/-- One mail, as the laws' wakes has it. -/
def wakeB : Bundle := ⟨0, 1, [⟨⟨true, [], []⟩, [⟨false, [97], [98]⟩], [], false, [], 0⟩]⟩
theorem wake_bytes : (bytes wakeB).2 = 0 ∧ ((bytes wakeB).1.take 14 = [66, 85, 78, 68, 76, 69, 32, 48, 32, 49, 32, 49, 32, 52]) ∧ 14 < (bytes wakeB).1.length := by decide +kernel
theorem wake_read : read (bytes wakeB).1 = (wakeB, 0) := by decide +kernel
theorem wake_pack : pack wakeB.mails 0 1 = 1 := by decide +kernel
theorem bytes_len (b : Bundle) : (bytes b).1.length ≤ 4096 := by
  unfold bytes
  split
  · split
    · decide
    · show (head b (commands b.mails) ++ commands b.mails).length ≤ 4096
      omega
  · decide
end Go.Proofs.YtpfmnkpmidjfjaaGreatDoor.B
/- A body that is stuffed is stripped as it was, in plain Lean. No Go. -/
namespace Go.Proofs.YtpfmnkpmidjfjaaGreatDoor.B
set_option linter.unusedVariables false
set_option linter.unusedSimpArgs false
theorem bare_no {l : Bs} (h : bare l = true) : 13 ∉ l ∧ 10 ∉ l := by
  unfold bare at h
  rw [List.all_eq_true] at h
  exact ⟨fun hm => absurd (h 13 hm) (by decide), fun hm => absurd (h 10 hm) (by decide)⟩
theorem cut_line : ∀ (l r : Bs), 13 ∉ l → cut (l ++ 13 :: 10 :: r) = some (l, r)
  | [], r, _ => by
    show cut (13 :: 10 :: r) = _
    rw [cut, if_pos ⟨rfl, rfl⟩]
    rfl
  | x :: l, r, h => by
    have hx : x ≠ 13 := fun e => h (by rw [e]; simp)
    rw [List.cons_append, cut, if_neg (fun e => hx e.1), cut_line l r (fun hm => h (by simp [hm]))]
def joined (us : List Bs) : Bs := us.flatMap (fun l => l ++ crlf)
theorem joined_cons (u : Bs) (us : List Bs) : joined (u :: us) = u ++ 13 :: 10 :: joined us := by
  unfold joined
  rw [List.flatMap_cons, List.append_assoc]
  rfl
theorem lines_joined : ∀ us : List Bs, (∀ u ∈ us, bare u = true) → lines (joined us) = us
  | [], _ => by rw [lines_cut]; rfl
  | u :: us, h => by
    rw [joined_cons, lines_cut, cut_line u _ (bare_no (h u (by simp))).1]
    simp only
    rw [lines_joined us (fun v hv => h v (by simp [hv]))]
theorem ended_app (a r : Bs) (hr : 2 ≤ r.length) : ended (a ++ r) = ended r := by
  unfold ended
  rw [show (a ++ r).length - 2 = a.length + (r.length - 2) by rw [List.length_append]; omega, ← List.drop_drop, List.drop_left, decide_eq_true (show 2 ≤ (a ++ r).length by rw [List.length_append]; omega), decide_eq_true hr]
theorem ended_joined (u : Bs) (us : List Bs) : ended (joined (u :: us)) = true := by
  induction us generalizing u with
  | nil =>
    rw [joined_cons, ended_app u _ (by simp)]
    decide
  | cons v vs ih =>
    have h := ih v
    have h1 : 2 ≤ (joined (v :: vs)).length := by
      unfold ended at h
      rw [Bool.and_eq_true, decide_eq_true_eq] at h
      exact h.1
    rw [joined_cons, show u ++ 13 :: 10 :: joined (v :: vs) = (u ++ [13, 10]) ++ joined (v :: vs) by simp, ended_app _ _ h1]
    exact h
theorem body_joined (us : List Bs) (h : ∀ u ∈ us, bare u = true) : body (joined us) = true := by
  unfold body
  rw [lines_joined us h, Bool.and_eq_true, List.all_eq_true]
  refine ⟨?_, h⟩
  cases us with
  | nil => rfl
  | cons u us => rw [ended_joined]; simp
theorem ended_tail (a r : Bs) (h : ended (a ++ 13 :: 10 :: r) = true) : r.isEmpty = true ∨ ended r = true := by
  match r, h with
  | [], _ => left; rfl
  | [x], h =>
    rw [show a ++ [13, 10, x] = (a ++ [13]) ++ [10, x] by simp, ended_app _ _ (by simp)] at h
    unfold ended at h
    simp [crlf] at h
  | x :: y :: r, h =>
    right
    rw [show a ++ 13 :: 10 :: x :: y :: r = (a ++ [13, 10]) ++ (x :: y :: r) by simp, ended_app _ _ (by simp)] at h
    exact h
theorem cut_none_ended {b : Bs} (hb : b ≠ []) (he : ended b = true) : cut b ≠ none := by
  unfold ended at he
  rw [Bool.and_eq_true, decide_eq_true_eq, decide_eq_true_eq] at he
  obtain ⟨h1, h2⟩ := he
  have e : b = b.take (b.length - 2) ++ [13, 10] := by
    have := List.take_append_drop (b.length - 2) b
    rw [h2] at this
    exact this.symm
  have key : ∀ l : Bs, cut (l ++ [13, 10]) ≠ none := by
    intro l
    induction l with
    | nil => decide
    | cons x l ih =>
      rw [List.cons_append, cut]
      split
      · simp
      · cases hc : cut (l ++ [13, 10]) with
        | none => exact absurd hc ih
        | some p => simp
  rw [e]
  exact key _
/-- A body is its lines. -/
theorem body_lines (n : Nat) : ∀ b : Bs, b.length = n → (b.isEmpty = true ∨ ended b = true) → joined (lines b) = b := by
  induction n using Nat.strongRecOn with
  | _ n ih =>
    intro b hn hb
    by_cases h0 : b = []
    · subst h0
      rw [lines_cut]
      rfl
    · have he : ended b = true := by
        rcases hb with hb | hb
        · exact absurd (by simpa using hb) h0
        · exact hb
      rw [lines_cut]
      cases hc : cut b with
      | none => exact absurd hc (cut_none_ended h0 he)
      | some p =>
        obtain ⟨a, r⟩ := p
        have hs := cut_some hc
        simp only
        rw [joined_cons, ih r.length (by rw [← hn, hs]; simp; omega) r rfl (ended_tail a r (by rw [← hs]; exact he))]
        exact hs.symm
theorem joined_lines {b : Bs} (h : body b = true) : joined (lines b) = b ∧ ∀ l ∈ lines b, bare l = true := by
  unfold body at h
  rw [Bool.and_eq_true, Bool.or_eq_true, List.all_eq_true] at h
  exact ⟨body_lines _ b rfl h.1, h.2⟩
/-- A line, as it is stuffed. -/
def dotL (l : Bs) : Bs := if l.head? = some 46 then 46 :: l else l
theorem dotted_eq (ls : List Bs) : ls.flatMap dotted = joined (ls.map dotL) := by
  unfold joined
  rw [List.flatMap_map]
  rfl
def pat : Bs := [13, 10, 46, 13, 10]
end Go.Proofs.YtpfmnkpmidjfjaaGreatDoor.B
/- A bundle that is written is read as it was, in plain Lean. No Go. -/
namespace Go.Proofs.YtpfmnkpmidjfjaaGreatDoor.B
set_option linter.unusedVariables false
set_option linter.unusedSimpArgs false
/-! numbers -/
theorem digits_len (N : Nat) : ∀ k, N < 10 ^ (k + 1) → (Lib.decDigits N).length ≤ k + 1 := by
  induction N using Nat.strongRecOn with
  | _ N ih =>
    intro k hk
    rw [Lib.decDigits]
    split
    · simp
    · rename_i h
      cases k with
      | zero => omega
      | succ k =>
        have := ih (N / 10) (by omega) k (by rw [Nat.pow_succ] at hk; omega)
        rw [List.length_append, List.length_singleton]
        omega
/-! mailboxes -/
def okC (c : UInt8) : Bool := !decide (c = 64) && !decide (c = 13) && !decide (c = 10)
/-! lines -/
/-! the header -/
end Go.Proofs.YtpfmnkpmidjfjaaGreatDoor.B
/- Packing, and mails' order, in plain Lean. No Go. -/
namespace Go.Proofs.YtpfmnkpmidjfjaaGreatDoor.B
set_option linter.unusedVariables false
set_option linter.unusedSimpArgs false
end Go.Proofs.YtpfmnkpmidjfjaaGreatDoor.B
/- A burst of at most 32 bits changes the sum, in plain Lean. No Go. -/
namespace Go.Proofs.YtpfmnkpmidjfjaaGreatDoor.B
set_option linter.unusedVariables false
set_option linter.unusedSimpArgs false
abbrev sh (r : Nat) : Nat := bit dv r
theorem xor_half (a b : Nat) : (a ^^^ b) / 2 = a / 2 ^^^ b / 2 := by
  have := Nat.shiftRight_xor_distrib (a := a) (b := b) (i := 1)
  simpa [Nat.shiftRight_eq_div_pow] using this
theorem xor_bit0 (a b : Nat) : (a ^^^ b) % 2 = (a + b) % 2 := by
  have h := Nat.xor_mod_two_pow (a := a) (b := b) (n := 1)
  rw [show (2 : Nat) ^ 1 = 2 from rfl] at h
  rw [h]
  rcases Nat.mod_two_eq_zero_or_one a with ha | ha <;> rcases Nat.mod_two_eq_zero_or_one b with hb | hb
  · rw [ha, hb, Nat.add_mod, ha, hb]; rfl
  · rw [ha, hb, Nat.add_mod, ha, hb]; rfl
  · rw [ha, hb, Nat.add_mod, ha, hb]; rfl
  · rw [ha, hb, Nat.add_mod, ha, hb]; rfl
theorem sh_xor (a b : Nat) : sh (a ^^^ b) = sh a ^^^ sh b := by
  unfold sh bit
  rw [xor_bit0, xor_half]
  by_cases ha : a % 2 = 1
  · by_cases hb : b % 2 = 1
    · rw [if_neg (by omega), if_pos ha, if_pos hb]
      rw [Nat.xor_assoc, Nat.xor_comm dv (b / 2 ^^^ dv), Nat.xor_assoc, Nat.xor_self, Nat.xor_zero]
    · rw [if_pos (by omega), if_pos ha, if_neg hb]
      rw [Nat.xor_assoc, Nat.xor_assoc, Nat.xor_comm (b / 2) dv]
  · by_cases hb : b % 2 = 1
    · rw [if_pos (by omega), if_neg ha, if_pos hb, Nat.xor_assoc]
    · rw [if_neg (by omega), if_neg ha, if_neg hb]
def shs : Nat → Nat → Nat
  | 0, r => r
  | k + 1, r => sh (shs k r)
theorem shs_xor (a b : Nat) : ∀ k, shs k (a ^^^ b) = shs k a ^^^ shs k b
  | 0 => rfl
  | k + 1 => by rw [shs, shs_xor a b k, sh_xor]; rfl
theorem sh_double (x : Nat) : sh (2 * x) = x := by
  unfold sh bit
  rw [if_neg (by omega)]
  omega
theorem shs_pow : ∀ (k x : Nat), shs k (2 ^ k * x) = x
  | 0, x => by simp [shs]
  | k + 1, x => by
    rw [shs, show 2 ^ (k + 1) * x = 2 ^ k * (2 * x) by rw [Nat.pow_succ, Nat.mul_assoc], shs_pow k (2 * x), sh_double]
theorem shs_add (x : Nat) : ∀ j k, shs (j + k) x = shs j (shs k x)
  | 0, k => by rw [Nat.zero_add]; rfl
  | j + 1, k => by rw [show j + 1 + k = (j + k) + 1 by omega, shs, shs_add x j k]; rfl
theorem bits8_shs (r : Nat) : bits8 dv r = shs 8 r := rfl
theorem sh_zero (x : Nat) (h : x < 4294967296) (hz : sh x = 0) : x = 0 := by
  unfold sh bit at hz
  by_cases ho : x % 2 = 1
  · rw [if_pos ho] at hz
    have e : x / 2 = dv := by
      have := congrArg (fun y => y ^^^ dv) hz
      simpa [Nat.xor_assoc] using this
    unfold dv at e
    omega
  · rw [if_neg ho] at hz
    omega
theorem sh_lt (x : Nat) (h : x < 4294967296) : sh x < 4294967296 := bit_lt x h
theorem shs_lt (x : Nat) (h : x < 4294967296) : ∀ k, shs k x < 4294967296
  | 0 => h
  | k + 1 => sh_lt _ (shs_lt x h k)
theorem shs_zero (x : Nat) (h : x < 4294967296) : ∀ k, shs k x = 0 → x = 0
  | 0, hz => hz
  | k + 1, hz => shs_zero x h k (sh_zero _ (shs_lt x h k) hz)
theorem low_high (r : Nat) : (256 * (r / 256)) ^^^ (r % 256) = r := by
  have h1 : ((256 * (r / 256)) ^^^ (r % 256)) / 256 = r / 256 := by
    have := Nat.shiftRight_xor_distrib (a := 256 * (r / 256)) (b := r % 256) (i := 8)
    simp only [Nat.shiftRight_eq_div_pow] at this
    rw [show (2 : Nat) ^ 8 = 256 from rfl] at this
    rw [this, Nat.mul_div_cancel_left _ (by decide), Nat.div_eq_of_lt (Nat.mod_lt _ (by decide)), Nat.xor_zero]
  have h2 : ((256 * (r / 256)) ^^^ (r % 256)) % 256 = r % 256 := by
    have := Nat.xor_mod_two_pow (a := 256 * (r / 256)) (b := r % 256) (n := 8)
    rw [show (2 : Nat) ^ 8 = 256 from rfl] at this
    rw [this, Nat.mul_mod_right, Nat.zero_xor, Nat.mod_mod]
  have := Nat.div_add_mod ((256 * (r / 256)) ^^^ (r % 256)) 256
  rw [h1, h2, Nat.div_add_mod] at this
  exact this.symm
/-- A byte's step is eight bits' steps. -/
theorem step_shs (r : Nat) (c : UInt8) : step dv r c = shs 8 (r ^^^ c.toNat) := by
  unfold step
  rw [bits8_shs]
  have e : r ^^^ c.toNat = (256 * (r / 256)) ^^^ ((r % 256) ^^^ c.toNat) := by rw [← Nat.xor_assoc, low_high]
  have h8 := shs_pow 8 (r / 256)
  rw [show (2 : Nat) ^ 8 = 256 from rfl] at h8
  rw [e, shs_xor (256 * (r / 256)) ((r % 256) ^^^ c.toNat) 8, h8]
/-- How two rows differ behind bytes that differ so. -/
def dstep (d : Nat) (p : UInt8 × UInt8) : Nat := shs 8 (d ^^^ (p.1.toNat ^^^ p.2.toNat))
def diff (d : Nat) (l : List (UInt8 × UInt8)) : Nat := l.foldl dstep d
theorem diff_cons (d : Nat) (p : UInt8 × UInt8) (l : List (UInt8 × UInt8)) : diff d (p :: l) = diff (shs 8 (d ^^^ (p.1.toNat ^^^ p.2.toNat))) l := by simp only [diff, List.foldl_cons, dstep]
theorem diff_nil (d : Nat) : diff d [] = d := by simp only [diff, List.foldl_nil]
theorem xor_four (r s a b : Nat) : (r ^^^ a) ^^^ (s ^^^ b) = (r ^^^ s) ^^^ (a ^^^ b) := by
  rw [Nat.xor_assoc, Nat.xor_assoc]
  congr 1
  rw [← Nat.xor_assoc, ← Nat.xor_assoc, Nat.xor_comm a s]
theorem fold_diff : ∀ (l : List (UInt8 × UInt8)) (r s : Nat), (l.map Prod.fst).foldl (step dv) r ^^^ (l.map Prod.snd).foldl (step dv) s = diff (r ^^^ s) l
  | [], r, s => by simp only [diff_nil, List.map_nil, List.foldl_nil]
  | p :: l, r, s => by
    have ih := fold_diff l (step dv r p.1) (step dv s p.2)
    have e : step dv r p.1 ^^^ step dv s p.2 = shs 8 ((r ^^^ s) ^^^ (p.1.toNat ^^^ p.2.toNat)) := by
      rw [step_shs, step_shs, ← shs_xor, xor_four]
    simp only [List.map_cons, List.foldl_cons, diff_cons]
    rw [ih, e]
theorem xor_ones (a b o : Nat) : (a ^^^ o) ^^^ (b ^^^ o) = a ^^^ b := by
  rw [xor_four, Nat.xor_self, Nat.xor_zero]
theorem long_diff (l : List (UInt8 × UInt8)) : long (l.map Prod.fst) ^^^ long (l.map Prod.snd) = diff 0 l := by
  have e := fold_diff l 4294967295 4294967295
  rw [Nat.xor_self] at e
  unfold long
  rw [xor_ones, e]
/-- The number that the difference of bytes spells, the first one lowest. -/
def spell : List (UInt8 × UInt8) → Nat
  | [] => 0
  | p :: l => (p.1.toNat ^^^ p.2.toNat) + 256 * spell l
theorem byte_lt (a b : UInt8) : a.toNat ^^^ b.toNat < 256 := Nat.xor_lt_two_pow (n := 8) a.toNat_lt b.toNat_lt
theorem spell_cons (p : UInt8 × UInt8) (l : List (UInt8 × UInt8)) : spell (p :: l) = (256 * spell l) ^^^ (p.1.toNat ^^^ p.2.toNat) := by
  rw [spell]
  have h := byte_lt p.1 p.2
  have hl := low_high ((p.1.toNat ^^^ p.2.toNat) + 256 * spell l)
  generalize p.1.toNat ^^^ p.2.toNat = x at *
  generalize spell l = y at *
  rw [show (x + 256 * y) / 256 = y by omega, show (x + 256 * y) % 256 = x by omega] at hl
  exact hl.symm
theorem diff_spell : ∀ (l : List (UInt8 × UInt8)) (d : Nat), diff d l = shs (8 * l.length) (d ^^^ spell l)
  | [], d => by
    rw [diff_nil, spell, Nat.xor_zero]
    rfl
  | p :: l, d => by
    rw [diff_cons, diff_spell l, spell_cons, List.length_cons, show 8 * (l.length + 1) = 8 * l.length + 8 by omega, shs_add]
    congr 1
    have h8 := shs_pow 8 (spell l)
    rw [show (2 : Nat) ^ 8 = 256 from rfl] at h8
    have e : d ^^^ ((256 * spell l) ^^^ (p.1.toNat ^^^ p.2.toNat)) = (d ^^^ (p.1.toNat ^^^ p.2.toNat)) ^^^ (256 * spell l) := by
      rw [Nat.xor_comm (256 * spell l) (p.1.toNat ^^^ p.2.toNat), Nat.xor_assoc d]
    rw [e, shs_xor (d ^^^ (p.1.toNat ^^^ p.2.toNat)) (256 * spell l) 8, h8]
/-- Bits turned about in a window of 32, one of them at least, change the sum. -/
theorem burst (l : List (UInt8 × UInt8)) (s n : Nat) (hn : 0 < n) (hn2 : n < 4294967296) (hs : spell l = 2 ^ s * n) (hsl : s ≤ 8 * l.length) : long (l.map Prod.fst) ≠ long (l.map Prod.snd) := by
  intro e
  have h1 := long_diff l
  rw [e, Nat.xor_self, diff_spell l 0, Nat.zero_xor, hs] at h1
  obtain ⟨k, hk⟩ : ∃ k, 8 * l.length = k + s := ⟨8 * l.length - s, by omega⟩
  rw [hk, shs_add, shs_pow] at h1
  have := shs_zero n hn2 k h1.symm
  omega
end Go.Proofs.YtpfmnkpmidjfjaaGreatDoor.B
/- Bodies, as the reference goes over them byte by byte, in plain Lean. No Go. -/
namespace Go.Proofs.YtpfmnkpmidjfjaaGreatDoor.B
set_option linter.unusedVariables false
set_option linter.unusedSimpArgs false
/-- The reference's Body, from a place on; p: the byte ahead. -/
def rbodyGo (p : UInt8) : Bs → Bool
  | [] => true
  | x :: r => if x = 13 ∧ r.head? ≠ some 10 ∨ x = 10 ∧ p ≠ 13 then false else rbodyGo x r
def rbody (b : Bs) : Bool := rbodyGo 0 b && (b.isEmpty || decide (b.getLast? = some 10))
theorem rgo_line : ∀ (u : Bs) (p : UInt8) (r : Bs), bare u = true → p ≠ 13 → rbodyGo p (u ++ 13 :: 10 :: r) = rbodyGo 10 r
  | [], p, r, _, hp => by
    show rbodyGo p (13 :: 10 :: r) = _
    rw [rbodyGo, if_neg (by simp), rbodyGo, if_neg (by simp)]
  | x :: u, p, r, h, hp => by
    obtain ⟨h1, h2⟩ := bare_no h
    have hx : x ≠ 13 ∧ x ≠ 10 := ⟨fun e => h1 (by rw [e]; simp), fun e => h2 (by rw [e]; simp)⟩
    have hu : bare u = true := by
      unfold bare at h ⊢
      rw [List.all_cons, Bool.and_eq_true] at h
      exact h.2
    rw [List.cons_append, rbodyGo, if_neg (by simp [hx.1, hx.2]), rgo_line u x r hu hx.1]
theorem rgo_joined : ∀ (us : List Bs) (p : UInt8), (∀ u ∈ us, bare u = true) → p ≠ 13 → rbodyGo p (joined us) = true
  | [], p, _, _ => rfl
  | u :: us, p, h, hp => by
    rw [joined_cons, rgo_line u p _ (h u (by simp)) hp]
    exact rgo_joined us 10 (fun v hv => h v (by simp [hv])) (by decide)
theorem joined_last (u : Bs) (us : List Bs) : (joined (u :: us)).getLast? = some 10 := by
  induction us generalizing u with
  | nil =>
    rw [joined_cons]
    show (u ++ [13, 10]).getLast? = _
    simp
  | cons v vs ih =>
    have h := ih v
    rw [joined_cons, show u ++ 13 :: 10 :: joined (v :: vs) = (u ++ [13, 10]) ++ joined (v :: vs) by simp]
    cases hj : joined (v :: vs) with
    | nil => rw [hj] at h; cases h
    | cons x t =>
      rw [hj] at h
      rw [List.getLast?_append, h]
      rfl
/-- A text without a line's end in it, or one that begins with a line. -/
theorem rgo_split : ∀ (b : Bs) (p : UInt8), p ≠ 13 → rbodyGo p b = true → bare b = true ∨ ∃ u r, bare u = true ∧ b = u ++ 13 :: 10 :: r ∧ rbodyGo 10 r = true
  | [], p, _, _ => Or.inl rfl
  | x :: b, p, hp, h => by
    rw [rbodyGo] at h
    split at h
    · cases h
    · rename_i hn
      by_cases hx : x = 13
      · right
        subst hx
        have hh : b.head? = some 10 := by
          by_cases e : b.head? = some 10
          · exact e
          · exact absurd (Or.inl ⟨rfl, e⟩) hn
        cases b with
        | nil => cases hh
        | cons y t =>
          have hy : y = 10 := Option.some.inj hh
          subst hy
          rw [rbodyGo] at h
          split at h
          · cases h
          · exact ⟨[], t, rfl, rfl, h⟩
      · by_cases hx10 : x = 10
        · exact absurd (Or.inr ⟨hx10, hp⟩) hn
        · have hb1 : (!decide (x = 13) && !decide (x = 10)) = true := by simp [hx, hx10]
          rcases rgo_split b x hx h with hb | ⟨u, r, hu, he, hr⟩
          · left
            unfold bare at hb ⊢
            rw [List.all_cons, hb, hb1]
            rfl
          · right
            refine ⟨x :: u, r, ?_, by rw [he]; rfl, hr⟩
            unfold bare at hu ⊢
            rw [List.all_cons, hu, hb1]
            rfl
theorem last_app (u r : Bs) (x : UInt8) (h : (u ++ 13 :: 10 :: r).getLast? = some x) : r = [] ∨ r.getLast? = some x := by
  cases r with
  | nil => left; rfl
  | cons y t =>
    right
    rw [show u ++ 13 :: 10 :: y :: t = (u ++ [13, 10]) ++ (y :: t) by simp, List.getLast?_append] at h
    cases hl : (y :: t).getLast? with
    | none => simp at hl
    | some z => rw [hl] at h; exact h
theorem rgo_lines (n : Nat) : ∀ (b : Bs) (p : UInt8), b.length = n → p ≠ 13 → rbodyGo p b = true → (b = [] ∨ b.getLast? = some 10) → ∃ us, (∀ u ∈ us, bare u = true) ∧ b = joined us := by
  induction n using Nat.strongRecOn with
  | _ n ih =>
    intro b p hn hp h hl
    by_cases h0 : b = []
    · exact ⟨[], by simp, h0⟩
    · have hl2 : b.getLast? = some 10 := by
        rcases hl with hl | hl
        · exact absurd hl h0
        · exact hl
      rcases rgo_split b p hp h with hb | ⟨u, r, hu, he, hr⟩
      · obtain ⟨_, h10⟩ := bare_no hb
        exact absurd (List.mem_of_getLast? hl2) h10
      · obtain ⟨us, h1, h2⟩ := ih r.length (by rw [← hn, he]; simp; omega) r 10 rfl (by decide) hr (last_app u r 10 (by rw [← he]; exact hl2))
        refine ⟨u :: us, ?_, by rw [joined_cons, ← h2]; exact he⟩
        intro v hv
        rcases List.mem_cons.1 hv with rfl | hv
        · exact hu
        · exact h1 v hv
theorem rbody_eq (b : Bs) : rbody b = body b := by
  rw [Bool.eq_iff_iff]
  constructor
  · intro h
    unfold rbody at h
    rw [Bool.and_eq_true, Bool.or_eq_true, decide_eq_true_eq] at h
    obtain ⟨us, h1, h2⟩ := rgo_lines _ b 0 rfl (by decide) h.1 (by
      rcases h.2 with h | h
      · left; simpa using h
      · right; exact h)
    rw [h2]
    exact body_joined us h1
  · intro h
    obtain ⟨h1, h2⟩ := joined_lines h
    rw [← h1]
    unfold rbody
    rw [rgo_joined (lines b) 0 h2 (by decide)]
    cases hl : lines b with
    | nil => rfl
    | cons u us => rw [joined_last]; simp
/-- The reference's Stuff; p: the byte ahead (10 at the beginning). -/
def rstuffGo (p : UInt8) : Bs → Bs
  | [] => []
  | x :: r => (if x = 46 ∧ p = 10 then [46, 46] else [x]) ++ rstuffGo x r
theorem rst_line : ∀ (u : Bs) (p : UInt8) (r : Bs), bare u = true → p ≠ 10 → rstuffGo p (u ++ 13 :: 10 :: r) = u ++ 13 :: 10 :: rstuffGo 10 r
  | [], p, r, _, hp => by
    show rstuffGo p (13 :: 10 :: r) = _
    rw [rstuffGo, if_neg (by simp), rstuffGo, if_neg (by simp)]
    rfl
  | x :: u, p, r, h, hp => by
    obtain ⟨h1, h2⟩ := bare_no h
    have hx : x ≠ 10 := fun e => h2 (by rw [e]; simp)
    have hu : bare u = true := by
      unfold bare at h ⊢
      rw [List.all_cons, Bool.and_eq_true] at h
      exact h.2
    rw [List.cons_append, rstuffGo, if_neg (by simp [hp]), rst_line u x r hu hx]
    rfl
theorem rst_joined : ∀ us : List Bs, (∀ u ∈ us, bare u = true) → rstuffGo 10 (joined us) = joined (us.map dotL)
  | [], _ => rfl
  | [] :: us, h => by
    rw [joined_cons, List.map_cons, joined_cons]
    show rstuffGo 10 (13 :: 10 :: joined us) = _
    rw [rstuffGo, if_neg (by simp), rstuffGo, if_neg (by simp), rst_joined us (fun v hv => h v (by simp [hv]))]
    rfl
  | (x :: u) :: us, h => by
    have hb := h (x :: u) (by simp)
    obtain ⟨h1, h2⟩ := bare_no hb
    have hx : x ≠ 10 := fun e => h2 (by rw [e]; simp)
    have hu : bare u = true := by
      unfold bare at hb ⊢
      rw [List.all_cons, Bool.and_eq_true] at hb
      exact hb.2
    rw [joined_cons, List.map_cons, joined_cons, List.cons_append, rstuffGo, rst_line u x _ hu hx, rst_joined us (fun v hv => h v (by simp [hv]))]
    unfold dotL
    rw [List.head?_cons]
    by_cases h46 : x = 46
    · subst h46
      rw [if_pos ⟨rfl, rfl⟩, if_pos rfl]
      rfl
    · rw [if_neg (fun e => h46 e.1), if_neg (fun e => h46 (Option.some.inj e))]
      rfl
theorem rstuff_eq {b : Bs} (h : body b = true) : rstuffGo 10 b ++ [46, 13, 10] = stuff b := by
  obtain ⟨h1, h2⟩ := joined_lines h
  unfold stuff
  rw [dotted_eq, ← rst_joined _ h2, h1]
/-- The reference's Strip; p: the byte ahead (10 at the beginning). -/
def runGo (p : UInt8) : Bs → Bs
  | [] => []
  | x :: r => (if x ≠ 46 ∨ p ≠ 10 then [x] else []) ++ runGo x r
end Go.Proofs.YtpfmnkpmidjfjaaGreatDoor.B
/- Headers that are none, in plain Lean. No Go. -/
namespace Go.Proofs.YtpfmnkpmidjfjaaGreatDoor.B
set_option linter.unusedVariables false
set_option linter.unusedSimpArgs false
/-- A header of these words. -/
def line (W : Bs) (ws : List Bs) : Bs := W ++ ws.flatMap (fun x => 32 :: x) ++ crlf
section
variable {b : Bundle}
end
end Go.Proofs.YtpfmnkpmidjfjaaGreatDoor.B
/- BundleLong's bundle: lines of x, and how long its bytes are, in plain Lean. No Go. -/
namespace Go.Proofs.YtpfmnkpmidjfjaaGreatDoor.B
set_option linter.unusedVariables false
set_option linter.unusedSimpArgs false
/-- The law's mail with a body, its bundle. -/
def xMail (l : Bs) : Mail := ⟨⟨true, [], []⟩, [⟨false, [97], [98]⟩], l, false, [], 0⟩
def xBun (l : Bs) : Bundle := ⟨0, 1, [xMail l]⟩
/-- Lines of x alone. -/
def isX (us : List Bs) : Prop := ∀ u ∈ us, ∀ c ∈ u, c = 120
theorem isX_bare {us : List Bs} (h : isX us) : ∀ u ∈ us, bare u = true := by
  intro u hu
  unfold bare
  rw [List.all_eq_true]
  intro c hc
  rw [h u hu c hc]
  decide
theorem isX_dot {us : List Bs} (h : isX us) : us.flatMap dotted = joined us := by
  rw [dotted_eq]
  congr 1
  conv => rhs; rw [← List.map_id us]
  refine List.map_congr_left (fun u hu => ?_)
  unfold dotL
  rw [if_neg]
  · rfl
  · intro e
    cases u with
    | nil => cases e
    | cons c t =>
      have h1 := h _ hu c List.mem_cons_self
      have h2 : c = 46 := Option.some.inj e
      rw [h1] at h2
      exact absurd h2 (by decide)
theorem isX_stuff {us : List Bs} (h : isX us) : stuff (joined us) = joined us ++ [46, 13, 10] := by
  unfold stuff
  rw [lines_joined us (isX_bare h), isX_dot h]
/-- How long the commands are. -/
theorem x_commands {us : List Bs} (h : isX us) : (commands (xBun (joined us)).mails).length = 44 + (joined us).length := by
  unfold commands xBun
  simp only [List.flatMap_cons, List.flatMap_nil, List.append_nil]
  unfold mailBytes
  rw [if_pos (by exact body_joined us (isX_bare h))]
  show (wFrom ++ box ⟨true, [], []⟩ ++ crlf ++ [(⟨false, [97], [98]⟩ : V.Path)].flatMap toLine ++ wData ++ stuff (joined us) ++ wQuit).length = _
  rw [isX_stuff h]
  have e1 : (wFrom ++ box ⟨true, [], []⟩ ++ crlf ++ [(⟨false, [97], [98]⟩ : V.Path)].flatMap toLine ++ wData).length = 35 := by decide
  have e2 : wQuit.length = 6 := rfl
  rw [List.length_append, List.length_append, e1, List.length_append, e2]
  show 35 + ((joined us).length + 3) + 6 = _
  omega
theorem digs_len (N : Nat) (k : Nat) (hk : N < 10 ^ (k + 1)) : 1 ≤ (Lib.itoa (N : Int)).length ∧ (Lib.itoa (N : Int)).length ≤ k + 1 := by
  have e : Lib.itoa (N : Int) = Lib.decDigits N := by unfold Lib.itoa; rw [if_neg (by omega)]; rfl
  rw [e]
  refine ⟨?_, digits_len N k hk⟩
  rw [Lib.decDigits]
  split
  · simp
  · simp
/-- How long the header is: from 18 to 30. -/
theorem x_head (l c : Bs) (hc : c.length < 10000) : 18 ≤ (head (xBun l) c).length ∧ (head (xBun l) c).length ≤ 30 := by
  have h4 := digs_len c.length 3 (by omega)
  have h5 := digs_len (long c) 9 (by have := long_lt c; omega)
  have e1 : (Lib.itoa (0 : Int)).length = 1 := by decide +kernel
  have e2 : (Lib.itoa (1 : Int)).length = 1 := by decide +kernel
  unfold head nums xBun
  simp only [List.flatMap_cons, List.flatMap_nil, List.append_nil, List.length_append, List.length_cons, List.length_nil]
  have e6 : wBundle.length = 6 := rfl
  have e7 : crlf.length = 2 := rfl
  rw [e6, e7]
  have e3 : (Lib.itoa ((0 + 1 : Nat) : Int)).length = 1 := e2
  rw [e1, e2, e3]
  omega
theorem x_check {us : List Bs} (h : isX us) (hl : (joined us).length ≤ 4096) : check (xBun (joined us)) = true := by
  unfold check xBun
  simp only [List.length_cons, List.length_nil, List.all_cons, List.all_nil, Bool.and_true]
  unfold right sole
  rw [show (xMail (joined us)).body = joined us from rfl, body_joined us (isX_bare h), decide_eq_true hl]
  simp [xMail, show V.check ⟨true, [], []⟩ = true by decide, show V.check ⟨false, [97], [98]⟩ = true by decide]
/-- Of a body of lines of x: it makes a bundle, if it is not too long; and how long it is then. -/
theorem x_bytes {us : List Bs} (h : isX us) (hl : (joined us).length ≤ 4020) : (bytes (xBun (joined us))).2 = 0 ∧ (joined us).length + 62 ≤ (bytes (xBun (joined us))).1.length ∧ (bytes (xBun (joined us))).1.length ≤ (joined us).length + 74 := by
  have hc := x_commands h
  have hh := x_head (joined us) (commands (xBun (joined us)).mails) (by omega)
  unfold bytes
  rw [if_pos (x_check h (by omega)), if_neg (by rw [List.length_append]; omega)]
  refine ⟨rfl, ?_, ?_⟩
  · show _ ≤ (head (xBun (joined us)) (commands (xBun (joined us)).mails) ++ commands (xBun (joined us)).mails).length
    rw [List.length_append]; omega
  · show (head (xBun (joined us)) (commands (xBun (joined us)).mails) ++ commands (xBun (joined us)).mails).length ≤ _
    rw [List.length_append]; omega
/-- One line more, where at least 40 bytes are left: of n - 2 bytes of x, n up to what is left less 20. -/
theorem x_step {us : List Bs} (h : isX us) (hl : (joined us).length ≤ 4020) (n : Nat) (hn : 2 ≤ n) (hn2 : (bytes (xBun (joined us))).1.length + n + 20 ≤ 4096) :
    isX (us ++ [List.replicate (n - 2) 120]) ∧ joined (us ++ [List.replicate (n - 2) 120]) = joined us ++ List.replicate (n - 2) 120 ++ [13, 10] ∧ (joined (us ++ [List.replicate (n - 2) 120])).length = (joined us).length + n ∧ (joined us).length + n ≤ 4020 := by
  have hx := x_bytes h hl
  have ej : joined (us ++ [List.replicate (n - 2) 120]) = joined us ++ List.replicate (n - 2) 120 ++ [13, 10] := by
    unfold joined
    rw [List.flatMap_append]
    simp [crlf]
  refine ⟨?_, ej, ?_, by omega⟩
  · intro u hu c hc
    rcases List.mem_append.1 hu with hu | hu
    · exact h u hu c hc
    · rw [List.mem_singleton.1 hu] at hc
      exact (List.mem_replicate.1 hc).2
  · rw [ej]
    simp
    omega
end Go.Proofs.YtpfmnkpmidjfjaaGreatDoor.B
