/- Texts of this seat, one behind the other: the plain law, the walks. -/
import Derived.Lib.SplitLaws
import Derived.Lib.Strings
import Derived.Lib.AtoiAll
import Derived.Lib.ItoaNum
import Derived.Lib.AtoiTie
/- Mailboxes in plain Lean: what path's functions answer. No Go. -/
namespace Go.Proofs.YtpfmnkpmidjfjaaGreatDoor.V
set_option linter.unusedVariables false
set_option linter.unusedSimpArgs false
abbrev Bs := List UInt8
def low (c : UInt8) : UInt8 := if 65 ≤ c ∧ c ≤ 90 then c + 32 else c
def fold (l : Bs) : Bs := l.map low
def isPlain (c : UInt8) : Bool := decide (97 ≤ c ∧ c ≤ 122) || decide (65 ≤ c ∧ c ≤ 90) || decide (48 ≤ c ∧ c ≤ 57)
def marks : Bs := [33, 35, 36, 37, 38, 39, 42, 43, 45, 47, 61, 63, 94, 95, 96, 123, 124, 125, 126]
def atom (l : Bs) : Bool := l.all (fun c => isPlain c || marks.contains c) && !l.isEmpty
def label (l : Bs) : Bool := l.all (fun c => isPlain c || c == 45) && !l.isEmpty && decide (l.length ≤ 63) && l.head? != some 45 && l.getLast? != some 45
def splitOn (c : UInt8) : Bs → List Bs
 | [] => [[]]
 | x :: l => if x = c then [] :: splitOn c l else match splitOn c l with
  | [] => [[x]]
  | h :: t => (x :: h) :: t
def parts (l : Bs) (most : Nat) (is : Bs → Bool) : Bool := decide (l.length ≤ most) && (splitOn 46 l).all is
def localOk (l : Bs) : Bool := parts l 64 atom
def domain (l : Bs) : Bool := parts l 255 label
structure Path where
 null : Bool
 loc : Bs
 dom : Bs
deriving DecidableEq
def noPath : Path := ⟨false, [], []⟩
def check (p : Path) : Bool := (p.null && p.loc.isEmpty && p.dom.isEmpty) || (!p.null && localOk p.loc && domain p.dom)
def ptext (p : Path) : Option Bs := if check p then (if p.null then some [60, 62] else some (60 :: p.loc ++ 64 :: p.dom ++ [62])) else none
def cutAt (c : UInt8) : Bs → Option (Bs × Bs)
 | [] => none
 | x :: l => if x = c then some ([], l) else match cutAt c l with
  | none => none
  | some (a, b) => some (x :: a, b)
def pparse (l : Bs) : Option Path :=
 if l = [60, 62] then some ⟨true, [], []⟩ else
 if l.head? = some 60 ∧ l.tail.getLast? = some 62 then
  match cutAt 64 (l.tail.dropLast) with
  | none => none
  | some (a, b) => if check ⟨false, a, b⟩ then some ⟨false, a, b⟩ else none
 else none
theorem splitOn_ne (c : UInt8) (l : Bs) : splitOn c l ≠ [] := by
 cases l with
 | nil => simp [splitOn]
 | cons x l =>
  unfold splitOn
  split
  ·simp
  ·split <;> simp
theorem index_one (c : UInt8) : ∀ l : Bs, Lib.index l [c] = match cutAt c l with | none => -1 | some (a, _) => (a.length : Int)
 | [] => by simp [Lib.index, cutAt]
 | x :: l => by
  have ih := index_one c l
  unfold Lib.index cutAt
  by_cases h : x = c
  ·subst h; simp [List.isPrefixOf]
  ·have h' : ([c] : Bs).isPrefixOf (x :: l) = false := by simp [List.isPrefixOf, Ne.symm h]
   rw [h', if_neg h, ih]
   cases hc : cutAt c l with
   | none => simp
   | some ab =>
    obtain ⟨a, b⟩ := ab
    simp
theorem cutAt_some {c : UInt8} : ∀ {l a b : Bs}, cutAt c l = some (a, b) → l = a ++ c :: b ∧ c ∉ a
 | [], a, b, h => by simp [cutAt] at h
 | x :: l, a, b, h => by
  unfold cutAt at h
  by_cases hx : x = c
  ·rw [if_pos hx] at h; simp at h; obtain ⟨rfl, rfl⟩ := h; simp [hx]
  ·rw [if_neg hx] at h
   cases hc : cutAt c l with
   | none => rw [hc] at h; simp at h
   | some ab =>
    obtain ⟨a', b'⟩ := ab
    rw [hc] at h; simp at h
    obtain ⟨rfl, rfl⟩ := h
    obtain ⟨h1, h2⟩ := cutAt_some hc
    exact ⟨by simp [h1], by simp [h2, Ne.symm hx]⟩
theorem cutAt_none {c : UInt8} : ∀ {l : Bs}, cutAt c l = none ↔ c ∉ l
 | [] => by simp [cutAt]
 | x :: l => by
  unfold cutAt
  by_cases hx : x = c
  ·simp [hx]
  ·rw [if_neg hx]
   have ih := cutAt_none (c := c) (l := l)
   cases hc : cutAt c l with
   | none => simp [Ne.symm hx, ih.1 hc]
   | some ab =>
    have : ¬ c ∉ l := fun h => by rw [ih.2 h] at hc; cases hc
    simp at this
    simp [this]
theorem cut_one (c : UInt8) (l : Bs) : Lib.cut l [c] = match cutAt c l with | none => (l, [], false) | some (a, b) => (a, b, true) := by
 unfold Lib.cut
 rw [index_one]
 cases hc : cutAt c l with
 | none => simp
 | some ab =>
  obtain ⟨a, b⟩ := ab
  obtain ⟨rfl, h⟩ := cutAt_some hc
  simp
theorem splitOn_cut (c : UInt8) : ∀ l : Bs, splitOn c l = match cutAt c l with | none => [l] | some (a, b) => a :: splitOn c b
 | [] => by simp [splitOn, cutAt]
 | x :: l => by
  have ih := splitOn_cut c l
  rw [splitOn, cutAt]
  by_cases hx : x = c
  ·simp only [if_pos hx]
  ·simp only [if_neg hx, ih]
   cases hc : cutAt c l with
   | none => rfl
   | some ab => obtain ⟨a, b⟩ := ab; rfl
theorem count_cut (c : UInt8) (l : Bs) : Lib.count l [c] = match cutAt c l with | none => 0 | some (_, b) => 1 + Lib.count b [c] := by
 rw [Lib.count_one]
 cases hc : cutAt c l with
 | none => simp only; exact List.count_eq_zero.2 (cutAt_none.1 hc)
 | some ab =>
  obtain ⟨a, b⟩ := ab
  obtain ⟨rfl, h⟩ := cutAt_some hc
  simp only
  rw [Lib.count_one, List.count_append, List.count_cons_self, List.count_eq_zero.2 h]
  omega
theorem splitK_one (c : UInt8) : ∀ (k : Nat) (l : Bs), Lib.count l [c] = k → Lib.splitK [c] 0 k l = splitOn c l
 | 0, l, h => by
  rw [splitOn_cut]
  rw [count_cut] at h
  cases hc : cutAt c l with
  | none => rfl
  | some ab => rw [hc] at h; simp at h
 | k + 1, l, h => by
  rw [splitOn_cut]
  rw [count_cut] at h
  cases hc : cutAt c l with
  | none => rw [hc] at h; simp at h
  | some ab =>
   obtain ⟨a, b⟩ := ab
   rw [hc] at h
   simp only at h
   unfold Lib.splitK
   rw [index_one, hc]
   have ih := splitK_one c k b (by omega)
   obtain ⟨rfl, hn⟩ := cutAt_some hc
   have h1 : ¬ ((((a.length : Int)) == -1) = true) := by simp
   simp only
   rw [if_neg h1]
   simp [ih]
theorem splitB_one (c : UInt8) (s : ByteArray) : (Lib.splitB ⟨#[c]⟩ 0 (Lib.countB s ⟨#[c]⟩) s).map (·.data.toList) = splitOn c s.data.toList := by
 rw [Lib.splitB_data]
 exact splitK_one c _ _ rfl
theorem split_list (c : UInt8) (s : ByteArray) : Lib.splitB ⟨#[c]⟩ 0 (Lib.countB s ⟨#[c]⟩) s = (splitOn c s.data.toList).map fun l => (⟨l.toArray⟩ : ByteArray) := by
 rw [← splitB_one, List.map_map]
 conv => lhs; rw [← List.map_id (Lib.splitB _ _ _ _)]
 apply List.map_congr_left
 intro x _
 rfl
theorem split_len (c : UInt8) (s : ByteArray) : Lib.countB s ⟨#[c]⟩ + 1 = (splitOn c s.data.toList).length := by
 rw [← splitB_one, List.length_map, Lib.splitB_all _ (by show 1 ≤ 1; omega) 0 _ s rfl]
theorem hasPrefix_one (c : UInt8) (l : Bs) : Lib.hasPrefix l [c] = decide (l.head? = some c) := by
 cases l with
 | nil => simp [Lib.hasPrefix, List.isPrefixOf]
 | cons x l =>
  show (c == x && List.isPrefixOf [] l) = decide (some x = some c)
  by_cases h : x = c
  ·subst h; simp
  ·have h2 : ¬ c = x := fun e => h e.symm
   simp [h, h2]
theorem trimPrefix_one (c : UInt8) (l : Bs) : Lib.trimPrefix l [c] = if l.head? = some c then l.tail else l := by
 unfold Lib.trimPrefix
 rw [hasPrefix_one]
 by_cases h : l.head? = some c
 ·simp [h]
 ·simp [h]
theorem hasSuffix_one (c : UInt8) (l : Bs) : Lib.hasSuffix l [c] = decide (l.getLast? = some c) := by
 have h : Lib.hasSuffix l [c] = Lib.hasPrefix l.reverse [c] := by
  simp [Lib.hasSuffix, Lib.hasPrefix, List.isSuffixOf]
 rw [h, hasPrefix_one, List.head?_reverse]
theorem trimSuffix_one (c : UInt8) (l : Bs) : Lib.trimSuffix l [c] = if l.getLast? = some c then l.dropLast else l := by
 unfold Lib.trimSuffix
 rw [hasSuffix_one]
 by_cases h : l.getLast? = some c
 ·simp [h, List.dropLast_eq_take]
 ·simp [h]
end Go.Proofs.YtpfmnkpmidjfjaaGreatDoor.V
/- Bodies on the line and sums in plain Lean: what dots' and sums' functions answer. No Go. -/
namespace Go.Proofs.YtpfmnkpmidjfjaaGreatDoor.B
set_option linter.unusedVariables false
set_option linter.unusedSimpArgs false
abbrev Bs := List UInt8
def crlf : Bs := [13, 10]
def cut : Bs → Option (Bs × Bs)
 | [] => none
 | x :: r => if x = 13 ∧ r.head? = some 10 then some ([], r.tail) else match cut r with
  | none => none
  | some (a, b) => some (x :: a, b)
def linesGo (c : Bs) : Bs → List Bs
 | [] => []
 | x :: r => if x = 10 ∧ c.head? = some 13 then c.tail.reverse :: linesGo [] r else linesGo (x :: c) r
def lines (b : Bs) : List Bs := linesGo [] b
def ended (b : Bs) : Bool := decide (2 ≤ b.length) && decide (b.drop (b.length - 2) = crlf)
def bare (l : Bs) : Bool := l.all (fun c => !decide (c = 13) && !decide (c = 10))
def body (b : Bs) : Bool := (b.isEmpty || ended b) && (lines b).all bare
def dotted (l : Bs) : Bs := (if l.head? = some 46 then 46 :: l else l) ++ crlf
def stuff (b : Bs) : Bs := (lines b).flatMap dotted ++ [46, 13, 10]
def undot (l : Bs) : Bs := (if l.head? = some 46 then l.tail else l) ++ crlf
def find (p : Bs) (n : Nat) : Bs → Option Nat
 | [] => if p = [] then some n else none
 | x :: r => if p.isPrefixOf (x :: r) then some n else find p (n + 1) r
def dot (b : Bs) : Option Nat := if [46, 13, 10].isPrefixOf b then some 0 else (find [13, 10, 46, 13, 10] 0 b).map (· + 2)
def strip (b : Bs) : Option (Bs × Nat) := match dot b with
 | none => none
 | some n => if body (b.take n) then some ((lines (b.take n)).flatMap undot, n + 3) else none
theorem cut_some : ∀ {l a b : Bs}, cut l = some (a, b) → l = a ++ 13 :: 10 :: b
 | [], a, b, h => by cases h
 | x :: r, a, b, h => by
  unfold cut at h
  by_cases hx : x = 13 ∧ r.head? = some 10
  ·rw [if_pos hx] at h
   obtain ⟨rfl, rfl⟩ := Prod.mk.inj (Option.some.inj h)
   cases r with
   | nil => cases hx.2
   | cons y t =>
    have := Option.some.inj hx.2
    rw [hx.1, this]
    rfl
  ·rw [if_neg hx] at h
   cases hc : cut r with
   | none => rw [hc] at h; cases h
   | some p =>
    obtain ⟨a', b'⟩ := p
    rw [hc] at h
    obtain ⟨rfl, rfl⟩ := Prod.mk.inj (Option.some.inj h)
    rw [cut_some hc]
    rfl
theorem linesGo_cut : ∀ (l c : Bs), (c.head? = some 13 → l.head? ≠ some 10) → linesGo c l = match cut l with
  | none => []
  | some (a, b) => (c.reverse ++ a) :: linesGo [] b
 | [], c, _ => rfl
 | x :: r, c, hc => by
  have h0 : ¬ (x = 10 ∧ c.head? = some 13) := fun h => hc h.2 (by rw [h.1]; rfl)
  rw [linesGo, if_neg h0, cut]
  by_cases hx : x = 13 ∧ r.head? = some 10
  ·rw [if_pos hx]
   cases r with
   | nil => cases hx.2
   | cons y t =>
    have hy : y = 10 := Option.some.inj hx.2
    rw [linesGo, if_pos ⟨hy, by rw [hx.1]; rfl⟩]
    simp
  ·rw [if_neg hx, linesGo_cut r (x :: c) (fun h e => hx ⟨Option.some.inj h, e⟩)]
   cases cut r with
   | none => rfl
   | some p => simp
theorem lines_cut (l : Bs) : lines l = match cut l with
  | none => []
  | some (a, b) => a :: lines b := by
 unfold lines
 rw [linesGo_cut l [] (fun h => by cases h)]
 cases cut l with
 | none => rfl
 | some p => rfl
def bit (div r : Nat) : Nat := if r % 2 = 1 then (r / 2) ^^^ div else r / 2
def bits8 (div r : Nat) : Nat := bit div (bit div (bit div (bit div (bit div (bit div (bit div (bit div r)))))))
def step (div r : Nat) (c : UInt8) : Nat := (r / 256) ^^^ bits8 div ((r % 256) ^^^ c.toNat)
def dv : Nat := 3988292384
def long (b : Bs) : Nat := (b.foldl (step dv) 4294967295) ^^^ 4294967295
theorem bit_lt (r : Nat) (h : r < 4294967296) : bit dv r < 4294967296 := by
 unfold bit
 split
 ·exact Nat.xor_lt_two_pow (n := 32) (by omega) (by decide)
 ·omega
theorem bits8_lt (r : Nat) (h : r < 4294967296) : bits8 dv r < 4294967296 := by
 unfold bits8
 iterate 8 refine bit_lt _ ?_
 exact h
theorem step_lt (r : Nat) (c : UInt8) (h : r < 4294967296) : step dv r c < 4294967296 := by
 unfold step
 refine Nat.xor_lt_two_pow (n := 32) (by omega) (bits8_lt _ ?_)
 exact Nat.lt_of_lt_of_le (Nat.xor_lt_two_pow (n := 8) (by omega) c.toNat_lt) (by decide)
theorem fold_lt : ∀ (b : Bs) (r : Nat), r < 4294967296 → b.foldl (step dv) r < 4294967296
 | [], r, h => h
 | c :: b, r, h => fold_lt b _ (step_lt r c h)
theorem long_lt (b : Bs) : long b < 4294967296 := by
 unfold long
 exact Nat.xor_lt_two_pow (n := 32) (fold_lt b _ (by decide)) (by decide)
end Go.Proofs.YtpfmnkpmidjfjaaGreatDoor.B
/- Bundles in plain Lean: what bundle's functions answer. No Go. -/
namespace Go.Proofs.YtpfmnkpmidjfjaaGreatDoor.B
set_option linter.unusedVariables false
set_option linter.unusedSimpArgs false
structure Mail where
 frm : V.Path
 to : List V.Path
 body : Bs
 quiet : Bool
 helo : Bs
 tm : Int
deriving DecidableEq
structure Bundle where
 origin : Int
 number : Int
 mails : List Mail
deriving DecidableEq
def noMail : Mail := ⟨V.noPath, [], [], false, [], 0⟩
def none0 : Bundle := ⟨0, 0, []⟩
def sole (m : Mail) : Bool := V.check m.frm && (decide (1 ≤ m.to.length) && (decide (m.to.length ≤ 8) && (m.to.all (fun p => V.check p && !p.null) && B.body m.body)))
def right (m : Mail) : Bool := sole m && (decide (m.body.length ≤ 4096) && (!m.quiet && (m.helo.isEmpty && decide (m.tm = 0))))
def check (b : Bundle) : Bool := decide (0 ≤ b.origin) && (decide (b.origin ≤ 1) && (decide (1 ≤ b.number) && (decide (b.number ≤ 65535) && (decide (1 ≤ b.mails.length) && (decide (b.mails.length ≤ 4) && b.mails.all right)))))
def wFrom : Bs := [77, 65, 73, 76, 32, 70, 82, 79, 77, 58]
def wTo : Bs := [82, 67, 80, 84, 32, 84, 79, 58]
def wData : Bs := [68, 65, 84, 65, 13, 10]
def wQuit : Bs := [81, 85, 73, 84, 13, 10]
def wBundle : Bs := [66, 85, 78, 68, 76, 69]
def box (p : V.Path) : Bs := (V.ptext p).getD []
def toLine (p : V.Path) : Bs := wTo ++ box p ++ crlf
def mailBytes (m : Mail) : Bs := wFrom ++ box m.frm ++ crlf ++ m.to.flatMap toLine ++ wData ++ (if B.body m.body then stuff m.body else [])
def commands (l : List Mail) : Bs := l.flatMap mailBytes ++ wQuit
def nums (l : List Int) : Bs := l.flatMap (fun n => 32 :: Lib.itoa n)
def head (b : Bundle) (c : Bs) : Bs := wBundle ++ nums [b.origin, b.number, b.mails.length, c.length, long c] ++ crlf
def bytes (b : Bundle) : Bs × Int :=
 if check b then (if 4096 < (head b (commands b.mails) ++ commands b.mails).length then ([], 2) else (head b (commands b.mails) ++ commands b.mails, 0)) else ([], 5)
def number (l : Bs) : Option Int := match Lib.atoiAll l with
 | .ok v => if 0 ≤ v ∧ l.length ≤ 10 ∧ Lib.itoa v = l then some v else none
 | _ => none
def numbers : List Bs → Option (List Int)
 | [] => some []
 | x :: l => match number x with
  | none => none
  | some v => match numbers l with
   | none => none
   | some vs => some (v :: vs)
def headOf (t : Bs) : Option (List Int × Bs) := match B.cut t with
 | none => none
 | some (line, rest) => match V.splitOn 32 line with
  | [] => none
  | w :: ws => if ws.length = 5 ∧ w = wBundle then (match numbers ws with
   | none => none
   | some vs => if vs.getD 0 0 ≤ 1 ∧ vs.getD 3 0 = rest.length then some (vs, rest) else none) else none
def cutLine (c begin_ : Bs) : Option (V.Path × Bs) := match B.cut c with
 | none => none
 | some (line, rest) => if begin_.isPrefixOf line then (match V.pparse (line.drop begin_.length) with
  | none => none
  | some p => some (p, rest)) else none
def tos : Nat → Bs → List V.Path × Bs
 | 0, c => ([], c)
 | k + 1, c => match cutLine c wTo with
  | none => ([], c)
  | some (p, r) => (p :: (tos k r).1, (tos k r).2)
def mail (c : Bs) : Option (Mail × Bs) := match cutLine c wFrom with
 | none => none
 | some (p, r) => if wData.isPrefixOf (tos r.length r).2 then (match strip ((tos r.length r).2.drop 6) with
  | none => none
  | some (b, n) => some (⟨p, (tos r.length r).1, b, false, [], 0⟩, (tos r.length r).2.drop (6 + n))) else none
def mails : Nat → Bs → List Mail
 | 0, _ => []
 | k + 1, c => match mail c with
  | none => []
  | some (m, r) => m :: mails k r
def read (t : Bs) : Bundle × Int := match headOf t with
 | none => (none0, 5)
 | some (vs, c) => if vs.getD 4 0 ≠ (long c : Int) then (none0, 6) else
  if bytes ⟨vs.getD 0 0, vs.getD 1 0, mails 5 c⟩ = (t, 0) then (⟨vs.getD 0 0, vs.getD 1 0, mails 5 c⟩, 0) else (none0, 5)
def plain (m : Mail) : Mail := ⟨m.frm, m.to, m.body, false, [], 0⟩
def packGo (l : List Mail) (o n : Int) : Nat → Nat
 | 0 => 0
 | k + 1 => if (bytes ⟨o, n, (l.take (k + 1)).map plain⟩).2 = 0 then k + 1 else packGo l o n k
def pack (l : List Mail) (o n : Int) : Nat := packGo l o n (min l.length 4)
def wakeB : Bundle := ⟨0, 1, [⟨⟨true, [], []⟩, [⟨false, [97], [98]⟩], [], false, [], 0⟩]⟩
theorem wake_bytes : (bytes wakeB).2 = 0 ∧ ((bytes wakeB).1.take 14 = [66, 85, 78, 68, 76, 69, 32, 48, 32, 49, 32, 49, 32, 52]) ∧ 14 < (bytes wakeB).1.length := by decide +kernel
theorem wake_read : read (bytes wakeB).1 = (wakeB, 0) := by decide +kernel
theorem wake_pack : pack wakeB.mails 0 1 = 1 := by decide +kernel
theorem bytes_len (b : Bundle) : (bytes b).1.length ≤ 4096 := by
 unfold bytes
 split
 ·split
  ·decide
  ·show (head b (commands b.mails) ++ commands b.mails).length ≤ 4096
   omega
 ·decide
end Go.Proofs.YtpfmnkpmidjfjaaGreatDoor.B
/- A body that is stuffed is stripped as it was, in plain Lean. No Go. -/
namespace Go.Proofs.YtpfmnkpmidjfjaaGreatDoor.B
set_option linter.unusedVariables false
set_option linter.unusedSimpArgs false
theorem bare_no {l : Bs} (h : bare l = true) : 13 ∉ l ∧ 10 ∉ l := by
 unfold bare at h
 rw [List.all_eq_true] at h
 exact ⟨fun hm => absurd (h 13 hm) (by decide), fun hm => absurd (h 10 hm) (by decide)⟩
theorem cut_line : ∀ (l r : Bs), 13 ∉ l → cut (l ++ 13 :: 10 :: r) = some (l, r)
 | [], r, _ => by
  show cut (13 :: 10 :: r) = _
  rw [cut, if_pos ⟨rfl, rfl⟩]
  rfl
 | x :: l, r, h => by
  have hx : x ≠ 13 := fun e => h (by rw [e]; simp)
  rw [List.cons_append, cut, if_neg (fun e => hx e.1), cut_line l r (fun hm => h (by simp [hm]))]
def joined (us : List Bs) : Bs := us.flatMap (fun l => l ++ crlf)
theorem joined_cons (u : Bs) (us : List Bs) : joined (u :: us) = u ++ 13 :: 10 :: joined us := by
 unfold joined
 rw [List.flatMap_cons, List.append_assoc]
 rfl
theorem lines_joined : ∀ us : List Bs, (∀ u ∈ us, bare u = true) → lines (joined us) = us
 | [], _ => by rw [lines_cut]; rfl
 | u :: us, h => by
  rw [joined_cons, lines_cut, cut_line u _ (bare_no (h u (by simp))).1]
  simp only
  rw [lines_joined us (fun v hv => h v (by simp [hv]))]
theorem ended_app (a r : Bs) (hr : 2 ≤ r.length) : ended (a ++ r) = ended r := by
 unfold ended
 rw [show (a ++ r).length - 2 = a.length + (r.length - 2) by rw [List.length_append]; omega, ← List.drop_drop, List.drop_left, decide_eq_true (show 2 ≤ (a ++ r).length by rw [List.length_append]; omega), decide_eq_true hr]
theorem ended_joined (u : Bs) (us : List Bs) : ended (joined (u :: us)) = true := by
 induction us generalizing u with
 | nil =>
  rw [joined_cons, ended_app u _ (by simp)]
  decide
 | cons v vs ih =>
  have h := ih v
  have h1 : 2 ≤ (joined (v :: vs)).length := by
   unfold ended at h
   rw [Bool.and_eq_true, decide_eq_true_eq] at h
   exact h.1
  rw [joined_cons, show u ++ 13 :: 10 :: joined (v :: vs) = (u ++ [13, 10]) ++ joined (v :: vs) by simp, ended_app _ _ h1]
  exact h
theorem body_joined (us : List Bs) (h : ∀ u ∈ us, bare u = true) : body (joined us) = true := by
 unfold body
 rw [lines_joined us h, Bool.and_eq_true, List.all_eq_true]
 refine ⟨?_, h⟩
 cases us with
 | nil => rfl
 | cons u us => rw [ended_joined]; simp
theorem ended_tail (a r : Bs) (h : ended (a ++ 13 :: 10 :: r) = true) : r.isEmpty = true ∨ ended r = true := by
 match r, h with
 | [], _ => left; rfl
 | [x], h =>
  rw [show a ++ [13, 10, x] = (a ++ [13]) ++ [10, x] by simp, ended_app _ _ (by simp)] at h
  unfold ended at h
  simp [crlf] at h
 | x :: y :: r, h =>
  right
  rw [show a ++ 13 :: 10 :: x :: y :: r = (a ++ [13, 10]) ++ (x :: y :: r) by simp, ended_app _ _ (by simp)] at h
  exact h
theorem cut_none_ended {b : Bs} (hb : b ≠ []) (he : ended b = true) : cut b ≠ none := by
 unfold ended at he
 rw [Bool.and_eq_true, decide_eq_true_eq, decide_eq_true_eq] at he
 obtain ⟨h1, h2⟩ := he
 have e : b = b.take (b.length - 2) ++ [13, 10] := by
  have := List.take_append_drop (b.length - 2) b
  rw [h2] at this
  exact this.symm
 have key : ∀ l : Bs, cut (l ++ [13, 10]) ≠ none := by
  intro l
  induction l with
  | nil => decide
  | cons x l ih =>
   rw [List.cons_append, cut]
   split
   ·simp
   ·cases hc : cut (l ++ [13, 10]) with
    | none => exact absurd hc ih
    | some p => simp
 rw [e]
 exact key _
theorem body_lines (n : Nat) : ∀ b : Bs, b.length = n → (b.isEmpty = true ∨ ended b = true) → joined (lines b) = b := by
 induction n using Nat.strongRecOn with
 | _ n ih =>
  intro b hn hb
  by_cases h0 : b = []
  ·subst h0
   rw [lines_cut]
   rfl
  ·have he : ended b = true := by
    rcases hb with hb | hb
    ·exact absurd (by simpa using hb) h0
    ·exact hb
   rw [lines_cut]
   cases hc : cut b with
   | none => exact absurd hc (cut_none_ended h0 he)
   | some p =>
    obtain ⟨a, r⟩ := p
    have hs := cut_some hc
    simp only
    rw [joined_cons, ih r.length (by rw [← hn, hs]; simp; omega) r rfl (ended_tail a r (by rw [← hs]; exact he))]
    exact hs.symm
theorem joined_lines {b : Bs} (h : body b = true) : joined (lines b) = b ∧ ∀ l ∈ lines b, bare l = true := by
 unfold body at h
 rw [Bool.and_eq_true, Bool.or_eq_true, List.all_eq_true] at h
 exact ⟨body_lines _ b rfl h.1, h.2⟩
def dotL (l : Bs) : Bs := if l.head? = some 46 then 46 :: l else l
theorem dotL_bare {l : Bs} (h : bare l = true) : bare (dotL l) = true := by
 unfold dotL
 split
 ·unfold bare at h ⊢
  rw [List.all_cons, h]
  decide
 ·exact h
theorem dotted_eq (ls : List Bs) : ls.flatMap dotted = joined (ls.map dotL) := by
 unfold joined
 rw [List.flatMap_map]
 rfl
theorem undot_dot (l : Bs) : undot (dotL l) = l ++ crlf := by
 unfold undot dotL
 by_cases h : l.head? = some 46
 ·rw [if_pos h, List.head?_cons, if_pos rfl]
  rfl
 ·rw [if_neg h, if_neg h]
theorem undot_all (ls : List Bs) : (ls.map dotL).flatMap undot = joined ls := by
 unfold joined
 rw [List.flatMap_map]
 congr 1
 funext l
 exact undot_dot l
theorem not_dot {l : Bs} (h : bare l = true) (r : Bs) : ([46, 13, 10] : Bs).isPrefixOf (dotL l ++ 13 :: 10 :: r) = false := by
 obtain ⟨h1, _⟩ := bare_no h
 unfold dotL
 cases l with
 | nil => rfl
 | cons x t =>
  rw [List.head?_cons]
  by_cases hx : x = 46
  ·subst hx
   rw [if_pos rfl]
   rfl
  ·rw [if_neg (fun e => hx (Option.some.inj e))]
   have : (46 == x) = false := by rw [beq_eq_false_iff_ne]; exact fun e => hx e.symm
   simp [List.isPrefixOf, this]
def pat : Bs := [13, 10, 46, 13, 10]
theorem find_skip : ∀ (u v : Bs) (n : Nat), 13 ∉ u → find pat n (u ++ v) = find pat (n + u.length) v
 | [], v, n, _ => rfl
 | x :: u, v, n, h => by
  have hx : (13 == x) = false := by rw [beq_eq_false_iff_ne]; exact fun e => h (by rw [← e]; simp)
  rw [List.cons_append, find]
  have hp : pat.isPrefixOf (x :: (u ++ v)) = false := by simp [pat, List.isPrefixOf, hx]
  rw [hp, if_neg (by decide), find_skip u v (n + 1) (fun hm => h (by simp [hm]))]
  congr 1
  simp
  omega
theorem find_dot : ∀ (ls : List Bs) (l : Bs) (r : Bs) (n : Nat), (∀ u ∈ l :: ls, bare u = true) →
  find pat n (joined ((l :: ls).map dotL) ++ 46 :: 13 :: 10 :: r) = some (n + (joined ((l :: ls).map dotL)).length - 2)
 | [], l, r, n, h => by
  have hb := bare_no (dotL_bare (h l (by simp)))
  rw [List.map_cons, List.map_nil, joined_cons, show joined [] = [] from rfl, List.append_assoc, find_skip _ _ n hb.1]
  have e : ((13 :: 10 :: ([] : Bs)) ++ 46 :: 13 :: 10 :: r) = 13 :: 10 :: 46 :: 13 :: 10 :: r := rfl
  rw [e, find, if_pos (by rfl)]
  congr 1
  simp
  omega
 | m :: ls, l, r, n, h => by
  have hb := bare_no (dotL_bare (h l (by simp)))
  have hm := h m (by simp)
  have ih := find_dot ls m r (n + (dotL l).length + 2) (fun u hu => h u (by simp at hu ⊢; exact Or.inr hu))
  rw [List.map_cons, joined_cons, List.append_assoc, find_skip _ _ n hb.1]
  have e : ((13 :: 10 :: joined ((m :: ls).map dotL)) ++ 46 :: 13 :: 10 :: r) = 13 :: 10 :: (joined ((m :: ls).map dotL) ++ 46 :: 13 :: 10 :: r) := rfl
  rw [e, find]
  have hp : pat.isPrefixOf (13 :: 10 :: (joined ((m :: ls).map dotL) ++ 46 :: 13 :: 10 :: r)) = false := by
   have := not_dot hm (joined (ls.map dotL) ++ 46 :: 13 :: 10 :: r)
   have e2 : joined ((m :: ls).map dotL) ++ 46 :: 13 :: 10 :: r = dotL m ++ 13 :: 10 :: (joined (ls.map dotL) ++ 46 :: 13 :: 10 :: r) := by
    rw [List.map_cons, joined_cons, List.append_assoc]
    rfl
   rw [e2]
   simpa [pat, List.isPrefixOf] using this
  rw [hp, if_neg (by decide), find]
  have hp2 : pat.isPrefixOf (10 :: (joined ((m :: ls).map dotL) ++ 46 :: 13 :: 10 :: r)) = false := by simp [pat, List.isPrefixOf]
  rw [hp2, if_neg (by decide), ih]
  have h2 : 2 ≤ (joined ((m :: ls).map dotL)).length := by
   rw [List.map_cons, joined_cons]; simp; omega
  congr 1
  rw [List.length_append, List.length_cons, List.length_cons]
  omega
theorem dot_stuff (ls : List Bs) (r : Bs) (h : ∀ u ∈ ls, bare u = true) : dot (joined (ls.map dotL) ++ 46 :: 13 :: 10 :: r) = some (joined (ls.map dotL)).length := by
 unfold dot
 cases ls with
 | nil => rfl
 | cons l ls =>
  have hn := not_dot (h l (by simp)) (joined (ls.map dotL) ++ 46 :: 13 :: 10 :: r)
  have e2 : joined ((l :: ls).map dotL) ++ 46 :: 13 :: 10 :: r = dotL l ++ 13 :: 10 :: (joined (ls.map dotL) ++ 46 :: 13 :: 10 :: r) := by
   rw [List.map_cons, joined_cons, List.append_assoc]
   rfl
  rw [← e2] at hn
  rw [hn, if_neg (by decide)]
  have hf := find_dot ls l r 0 h
  unfold pat at hf
  rw [hf]
  have h2 : 2 ≤ (joined ((l :: ls).map dotL)).length := by
   rw [List.map_cons, joined_cons]; simp; omega
  simp only [Option.map_some]
  congr 1
  omega
theorem strip_stuff (b r : Bs) (h : body b = true) : strip (stuff b ++ r) = some (b, (stuff b).length) := by
 obtain ⟨h1, h2⟩ := joined_lines h
 unfold strip stuff
 rw [dotted_eq, List.append_assoc, show ([46, 13, 10] : Bs) ++ r = 46 :: 13 :: 10 :: r from rfl, dot_stuff (lines b) r h2]
 have hb : ∀ u ∈ (lines b).map dotL, bare u = true := by
  intro u hu
  obtain ⟨l, hl, rfl⟩ := List.mem_map.1 hu
  exact dotL_bare (h2 l hl)
 simp only
 rw [List.take_left, body_joined _ hb, if_pos rfl, lines_joined _ hb, undot_all, h1]
 congr 1
 simp
end Go.Proofs.YtpfmnkpmidjfjaaGreatDoor.B
/- A bundle that is written is read as it was, in plain Lean. No Go. -/
namespace Go.Proofs.YtpfmnkpmidjfjaaGreatDoor.B
set_option linter.unusedVariables false
set_option linter.unusedSimpArgs false
/-! numbers -/
theorem decFrom_app : ∀ (l : Bs) (acc : Nat) (b : UInt8), Lib.decFrom acc (l ++ [b]) = (Lib.decFrom acc l).bind fun n => (Lib.digitVal b).map fun d => n * 10 + d
 | [], acc, b => by
  simp only [List.nil_append, Lib.decFrom]
  cases Lib.digitVal b <;> rfl
 | x :: l, acc, b => by
  rw [List.cons_append, Lib.decFrom, Lib.decFrom]
  cases Lib.digitVal x with
  | none => rfl
  | some d => exact decFrom_app l _ b
theorem digit_val (M : Nat) (h : M ≤ 9) : Lib.digitVal (UInt8.ofNat (48 + M)) = some M := by
 have : ∀ M : Nat, M ≤ 9 → Lib.digitVal (UInt8.ofNat (48 + M)) = some M := by decide
 exact this M h
theorem decFrom_digits (N : Nat) : Lib.decFrom 0 (Lib.decDigits N) = some N := by
 induction N using Nat.strongRecOn with
 | _ N ih =>
  rw [Lib.decDigits]
  split
  ·rename_i h
   simp only [Lib.decFrom]
   rw [digit_val N (by omega)]
   simp
  ·rename_i h
   rw [decFrom_app, ih (N / 10) (by omega), digit_val (N % 10) (by omega)]
   show some (N / 10 * 10 + N % 10) = some N
   congr 1
   omega
theorem digits_all (N : Nat) : ∀ c ∈ Lib.decDigits N, 48 ≤ c.toNat ∧ c.toNat ≤ 57 := by
 induction N using Nat.strongRecOn with
 | _ N ih =>
  rw [Lib.decDigits]
  split
  ·rename_i h
   intro c hc
   rw [List.mem_singleton] at hc
   subst hc
   have : ∀ M : Nat, M ≤ 9 → 48 ≤ (UInt8.ofNat (48 + M)).toNat ∧ (UInt8.ofNat (48 + M)).toNat ≤ 57 := by decide
   exact this N (by omega)
  ·rename_i h
   intro c hc
   rcases List.mem_append.1 hc with hc | hc
   ·exact ih (N / 10) (by omega) c hc
   ·rw [List.mem_singleton] at hc
    subst hc
    have : ∀ M : Nat, M ≤ 9 → 48 ≤ (UInt8.ofNat (48 + M)).toNat ∧ (UInt8.ofNat (48 + M)).toNat ≤ 57 := by decide
    exact this (N % 10) (by omega)
theorem digits_ne (N : Nat) : Lib.decDigits N ≠ [] := by
 rw [Lib.decDigits]
 split
 ·simp
 ·simp
theorem digits_len (N : Nat) : ∀ k, N < 10 ^ (k + 1) → (Lib.decDigits N).length ≤ k + 1 := by
 induction N using Nat.strongRecOn with
 | _ N ih =>
  intro k hk
  rw [Lib.decDigits]
  split
  ·simp
  ·rename_i h
   cases k with
   | zero => omega
   | succ k =>
    have := ih (N / 10) (by omega) k (by rw [Nat.pow_succ] at hk; omega)
    rw [List.length_append, List.length_singleton]
    omega
theorem itoa_nat (N : Nat) : Lib.itoa (N : Int) = Lib.decDigits N := by
 unfold Lib.itoa
 rw [if_neg (by omega)]
 simp
theorem number_itoa (N : Nat) (hN : N < 10000000000) : number (Lib.decDigits N) = some (N : Int) := by
 have hl := digits_len N 9 (by omega)
 have ha : Lib.atoiAll (Lib.decDigits N) = .ok (N : Int) := by
  rw [Lib.atoiAll_short _ (by omega)]
  have hd := digits_all N
  have hf := decFrom_digits N
  cases hl2 : Lib.decDigits N with
  | nil => exact absurd hl2 (digits_ne N)
  | cons c r =>
   rw [hl2] at hd hf
   have hc := hd c (by simp)
   have h1 : (c == 45) = false := by rw [beq_eq_false_iff_ne]; rintro rfl; exact absurd hc.1 (by decide)
   have h2 : (c == 43) = false := by rw [beq_eq_false_iff_ne]; rintro rfl; exact absurd hc.1 (by decide)
   rw [Lib.atoi, h1, h2]
   simp only [Bool.false_eq_true, if_false]
   unfold Lib.decNat
   rw [if_neg (by simp), hf]
   rfl
 unfold number
 rw [ha]
 simp only
 rw [if_pos ⟨by omega, hl, itoa_nat N⟩]
theorem digits_no (N : Nat) : 13 ∉ Lib.decDigits N ∧ 32 ∉ Lib.decDigits N :=
 ⟨fun h => absurd (digits_all N 13 h).1 (by decide), fun h => absurd (digits_all N 32 h).1 (by decide)⟩
/-! mailboxes -/
def okC (c : UInt8) : Bool := !decide (c = 64) && !decide (c = 13) && !decide (c = 10)
theorem split_all (p : UInt8 → Bool) (c : UInt8) (hc : p c = true) : ∀ l : Bs, (∀ x ∈ V.splitOn c l, x.all p = true) → l.all p = true
 | [], _ => rfl
 | x :: l, h => by
  unfold V.splitOn at h
  by_cases hx : x = c
  ·rw [if_pos hx] at h
   rw [List.all_cons, hx, hc, split_all p c hc l (fun y hy => h y (by simp [hy]))]
   rfl
  ·rw [if_neg hx] at h
   have ih := split_all p c hc l
   cases hs : V.splitOn c l with
   | nil => exact absurd hs (V.splitOn_ne c l)
   | cons a t =>
    rw [hs] at h ih
    have h1 := h (x :: a) (by simp)
    rw [List.all_cons, Bool.and_eq_true] at h1
    rw [List.all_cons, h1.1, ih (fun y hy => by
     rcases List.mem_cons.1 hy with rfl | hy
     ·exact h1.2
     ·exact h y (by simp [hy]))]
    rfl
theorem byte_all (p q : UInt8 → Bool) (h : ∀ n : Nat, n < 256 → p (UInt8.ofNat n) = true → q (UInt8.ofNat n) = true) {l : Bs} (hl : l.all p = true) : l.all q = true := by
 rw [List.all_eq_true] at hl ⊢
 intro c hc
 have := h c.toNat c.toNat_lt
 rw [UInt8.ofNat_toNat] at this
 exact this (hl c hc)
theorem loc_ok {l : Bs} (h : V.localOk l = true) : l.all okC = true := by
 unfold V.localOk V.parts at h
 rw [Bool.and_eq_true, List.all_eq_true] at h
 refine split_all okC 46 (by decide) l (fun x hx => ?_)
 have := h.2 x hx
 unfold V.atom at this
 rw [Bool.and_eq_true] at this
 exact byte_all _ _ (by decide +kernel) this.1
theorem dom_ok {l : Bs} (h : V.domain l = true) : l.all okC = true := by
 unfold V.domain V.parts at h
 rw [Bool.and_eq_true, List.all_eq_true] at h
 refine split_all okC 46 (by decide) l (fun x hx => ?_)
 have := h.2 x hx
 unfold V.label at this
 simp only [Bool.and_eq_true] at this
 exact byte_all _ _ (by decide +kernel) this.1.1.1.1
theorem okC_no {l : Bs} (h : l.all okC = true) : 64 ∉ l ∧ 13 ∉ l ∧ 10 ∉ l := by
 rw [List.all_eq_true] at h
 exact ⟨fun hm => absurd (h 64 hm) (by decide), fun hm => absurd (h 13 hm) (by decide), fun hm => absurd (h 10 hm) (by decide)⟩
theorem cutAt_eq (c : UInt8) : ∀ (a b : Bs), c ∉ a → V.cutAt c (a ++ c :: b) = some (a, b)
 | [], b, _ => by simp [V.cutAt]
 | x :: a, b, hn => by
  show V.cutAt c (x :: (a ++ c :: b)) = _
  unfold V.cutAt
  rw [if_neg (fun hx => hn (by simp [hx])), cutAt_eq c a b (fun hm => hn (by simp [hm]))]
theorem box_read {p : V.Path} (h : V.check p = true) : V.pparse (box p) = some p ∧ 13 ∉ box p := by
 obtain ⟨n, l, d⟩ := p
 unfold box V.ptext
 rw [if_pos h]
 cases n with
 | true =>
  unfold V.check at h
  simp at h
  rw [h.1, h.2]
  exact ⟨rfl, by decide⟩
 | false =>
  have h0 := h
  unfold V.check at h
  simp only [Bool.false_and, Bool.not_false, Bool.true_and, Bool.false_or, Bool.and_eq_true] at h
  obtain ⟨h1, h2⟩ := h
  obtain ⟨a1, a2, _⟩ := okC_no (loc_ok h1)
  obtain ⟨b1, b2, _⟩ := okC_no (dom_ok h2)
  simp only [Bool.false_eq_true, if_false, Option.getD_some]
  have e : 60 :: l ++ 64 :: d ++ [62] = 60 :: ((l ++ 64 :: d) ++ [62]) := by simp
  rw [e]
  constructor
  ·unfold V.pparse
   have hne : (60 :: ((l ++ 64 :: d) ++ [62]) : Bs) ≠ [60, 62] := by
    intro e
    have := congrArg List.length e
    simp only [List.length_cons, List.length_append, List.length_nil] at this
    omega
   rw [if_neg hne, List.head?_cons, List.tail_cons, List.getLast?_concat, if_pos ⟨rfl, rfl⟩, List.dropLast_concat, cutAt_eq 64 l d a1]
   simp only
   rw [if_pos h0]
  ·simp [a2, b2]
/-! lines -/
theorem prefix_app : ∀ (a b : Bs), a.isPrefixOf (a ++ b) = true
 | [], b => rfl
 | x :: a, b => by
  rw [List.cons_append]
  show (x == x && a.isPrefixOf (a ++ b)) = true
  rw [prefix_app a b]
  simp
theorem cutLine_app (W : Bs) (hW : 13 ∉ W) (p : V.Path) (hp : V.check p = true) (r : Bs) : cutLine (W ++ box p ++ 13 :: 10 :: r) W = some (p, r) := by
 obtain ⟨h1, h2⟩ := box_read hp
 unfold cutLine
 rw [cut_line (W ++ box p) r (by simp [hW, h2])]
 simp only
 rw [prefix_app, if_pos rfl, List.drop_left, h1]
theorem tos_app (r : Bs) (hr : cutLine r wTo = none) : ∀ (l : List V.Path) (k : Nat), l.length ≤ k → (∀ p ∈ l, V.check p = true) → tos k (l.flatMap toLine ++ r) = (l, r)
 | [], k, _, _ => by
  cases k with
  | zero => rfl
  | succ k =>
   rw [List.flatMap_nil, List.nil_append, tos, hr]
 | p :: l, 0, h, _ => by simp at h
 | p :: l, k + 1, h, hp => by
  have e : (p :: l).flatMap toLine ++ r = wTo ++ box p ++ 13 :: 10 :: (l.flatMap toLine ++ r) := by
   rw [List.flatMap_cons]
   unfold toLine crlf
   simp
  have ih := tos_app r hr l k (by simp at h; omega) (fun q hq => hp q (by simp [hq]))
  rw [e, tos, cutLine_app wTo (by decide) p (hp p (by simp))]
  simp only
  rw [ih]
theorem flat_ge (l : List V.Path) : l.length ≤ (l.flatMap toLine).length := by
 induction l with
 | nil => simp
 | cons p l ih =>
  rw [List.flatMap_cons, List.length_append, List.length_cons]
  have : 1 ≤ (toLine p).length := by unfold toLine wTo; simp
  omega
theorem sole_parts {m : Mail} (h : sole m = true) : V.check m.frm = true ∧ (∀ p ∈ m.to, V.check p = true) ∧ B.body m.body = true := by
 unfold sole at h
 simp only [Bool.and_eq_true] at h
 refine ⟨h.1, fun p hp => ?_, h.2.2.2.2⟩
 have := List.all_eq_true.1 h.2.2.2.1 p hp
 rw [Bool.and_eq_true] at this
 exact this.1
theorem mail_app {m : Mail} (h : sole m = true) (r : Bs) : mail (mailBytes m ++ r) = some (plain m, r) := by
 obtain ⟨h1, h2, h3⟩ := sole_parts h
 have e : mailBytes m ++ r = wFrom ++ box m.frm ++ 13 :: 10 :: (m.to.flatMap toLine ++ (wData ++ (stuff m.body ++ r))) := by
  unfold mailBytes crlf
  rw [if_pos h3]
  simp
 have hq : cutLine (wData ++ (stuff m.body ++ r)) wTo = none := by
  unfold cutLine
  have : B.cut (wData ++ (stuff m.body ++ r)) = some ([68, 65, 84, 65], stuff m.body ++ r) := cut_line [68, 65, 84, 65] _ (by decide)
  rw [this]
  rfl
 have ht := tos_app (wData ++ (stuff m.body ++ r)) hq m.to (m.to.flatMap toLine ++ (wData ++ (stuff m.body ++ r))).length (by rw [List.length_append]; have := flat_ge m.to; omega) h2
 rw [e]
 unfold mail
 rw [cutLine_app wFrom (by decide) m.frm h1]
 simp only
 rw [ht]
 simp only
 rw [prefix_app, if_pos rfl, show (wData ++ (stuff m.body ++ r)).drop 6 = stuff m.body ++ r from rfl, strip_stuff m.body r h3]
 simp only
 rw [← List.drop_drop, show (wData ++ (stuff m.body ++ r)).drop 6 = stuff m.body ++ r from rfl, List.drop_left]
 try rfl
theorem mails_app : ∀ (l : List Mail) (k : Nat), l.length ≤ k → (∀ m ∈ l, sole m = true) → mails k (commands l) = l.map plain
 | [], k, _, _ => by
  cases k with
  | zero => rfl
  | succ k => rfl
 | m :: l, 0, h, _ => by simp at h
 | m :: l, k + 1, h, hm => by
  have e : commands (m :: l) = mailBytes m ++ commands l := by
   unfold commands
   rw [List.flatMap_cons, List.append_assoc]
  rw [e, mails, mail_app (hm m (by simp))]
  simp only
  rw [mails_app l k (by simp at h; omega) (fun x hx => hm x (by simp [hx]))]
  try rfl
theorem right_plain {m : Mail} (h : right m = true) : sole m = true ∧ plain m = m := by
 unfold right at h
 simp only [Bool.and_eq_true, decide_eq_true_eq] at h
 obtain ⟨h1, _, h3, h4, h5⟩ := h
 obtain ⟨a, b, c, d, e, f⟩ := m
 refine ⟨h1, ?_⟩
 simp at h3 h4 h5
 unfold plain
 simp [h3, h4, h5]
/-! the header -/
theorem split_words : ∀ (ws : List Bs) (w : Bs), 32 ∉ w → (∀ x ∈ ws, 32 ∉ x) → V.splitOn 32 (w ++ ws.flatMap (fun x => 32 :: x)) = w :: ws
 | [], w, hw, _ => by
  rw [List.flatMap_nil, List.append_nil, V.splitOn_cut, V.cutAt_none.2 hw]
 | x :: ws, w, hw, h => by
  rw [List.flatMap_cons, List.cons_append, V.splitOn_cut, cutAt_eq 32 w _ hw]
  show w :: V.splitOn 32 (x ++ _) = _
  rw [split_words ws x (h x (by simp)) (fun y hy => h y (by simp [hy]))]
theorem nums_words (l : List Nat) : nums (l.map Int.ofNat) = (l.map Lib.decDigits).flatMap (fun x => 32 :: x) := by
 unfold nums
 rw [List.flatMap_map, List.flatMap_map]
 have e : (fun n : Nat => (32 :: Lib.itoa (Int.ofNat n) : Bs)) = fun n => 32 :: Lib.decDigits n := by
  funext n
  rw [show Int.ofNat n = (n : Int) from rfl, itoa_nat]
 first
 | rw [e]
 | (simp only [e])
 | exact congrArg (fun f => l.flatMap f) e
theorem numbers_all : ∀ l : List Nat, (∀ n ∈ l, n < 10000000000) → numbers (l.map Lib.decDigits) = some (l.map Int.ofNat)
 | [], _ => rfl
 | n :: l, h => by
  rw [List.map_cons, numbers, number_itoa n (h n (by simp)), numbers_all l (fun m hm => h m (by simp [hm]))]
  rfl
theorem headOf_of (o n k S : Nat) (c : Bs) (ho : o ≤ 1) (hn : n < 10000000000) (hk : k < 10000000000) (hc : c.length < 10000000000) (hlong : S < 4294967296) :
  headOf (wBundle ++ nums ([o, n, k, c.length, S].map Int.ofNat) ++ crlf ++ c) = some ([o, n, k, c.length, S].map Int.ofNat, c) := by
 have hall : ∀ x ∈ [o, n, k, c.length, S], x < 10000000000 := by
  intro x hx
  simp only [List.mem_cons, List.not_mem_nil, or_false] at hx
  rcases hx with rfl | rfl | rfl | rfl | rfl <;> omega
 have hno : 13 ∉ wBundle ++ nums ([o, n, k, c.length, S].map Int.ofNat) := by
  rw [nums_words]
  intro hm
  rcases List.mem_append.1 hm with hm | hm
  ·exact absurd hm (by decide)
  ·obtain ⟨x, hx, h⟩ := List.mem_flatMap.1 hm
   obtain ⟨m, _, rfl⟩ := List.mem_map.1 hx
   rcases List.mem_cons.1 h with h | h
   ·exact absurd h (by decide)
   ·exact (digits_no m).1 h
 unfold headOf
 rw [show wBundle ++ nums ([o, n, k, c.length, S].map Int.ofNat) ++ crlf ++ c = (wBundle ++ nums ([o, n, k, c.length, S].map Int.ofNat)) ++ 13 :: 10 :: c by simp [crlf], cut_line _ c hno]
 simp only
 rw [nums_words, split_words _ wBundle (by decide) (by
  intro x hx
  obtain ⟨m, _, rfl⟩ := List.mem_map.1 hx
  exact (digits_no m).2)]
 simp only
 rw [if_pos (by simp), numbers_all _ hall]
 simp only
 rw [if_pos]
 refine ⟨?_, rfl⟩
 show (o : Int) ≤ 1
 omega
theorem headOf_app (o n k : Nat) (c : Bs) (ho : o ≤ 1) (hn : n < 10000000000) (hk : k < 10000000000) (hc : c.length < 10000000000) :
  headOf (wBundle ++ nums ([o, n, k, c.length, long c].map Int.ofNat) ++ crlf ++ c) = some ([o, n, k, c.length, long c].map Int.ofNat, c) :=
 headOf_of o n k (long c) c ho hn hk hc (long_lt c)
theorem read_bytes {b : Bundle} (h : (bytes b).2 = 0) : read (bytes b).1 = (b, 0) ∧ check b = true := by
 have h0 := h
 unfold bytes at h
 split at h
 ·rename_i hc
  split at h
  ·cases h
  ·rename_i hl
   have hb : bytes b = (head b (commands b.mails) ++ commands b.mails, 0) := by
    unfold bytes
    rw [if_pos hc, if_neg hl]
   refine ⟨?_, hc⟩
   have hcc := hc
   unfold check at hcc
   simp only [Bool.and_eq_true, decide_eq_true_eq] at hcc
   obtain ⟨c1, c2, c3, c4, c5, c6, c7⟩ := hcc
   rw [List.all_eq_true] at c7
   obtain ⟨o, ho⟩ : ∃ o : Nat, b.origin = o := ⟨b.origin.toNat, by omega⟩
   obtain ⟨n, hn⟩ : ∃ n : Nat, b.number = n := ⟨b.number.toNat, by omega⟩
   have hlen : (commands b.mails).length ≤ 4096 := by
    rw [List.length_append] at hl
    omega
   have hd : head b (commands b.mails) ++ commands b.mails = wBundle ++ nums ([o, n, b.mails.length, (commands b.mails).length, long (commands b.mails)].map Int.ofNat) ++ crlf ++ commands b.mails := by
    unfold head
    rw [ho, hn]
    rfl
   have hh := headOf_app o n b.mails.length (commands b.mails) (by omega) (by omega) (by omega) (by omega)
   rw [← hd] at hh
   have hm : mails 5 (commands b.mails) = b.mails := by
    rw [mails_app b.mails 5 (by omega) (fun m hm => (right_plain (c7 m hm)).1)]
    have : ∀ l : List Mail, (∀ m ∈ l, right m = true) → l.map plain = l := by
     intro l
     induction l with
     | nil => intro _; rfl
     | cons m l ih =>
      intro h
      rw [List.map_cons, (right_plain (h m (by simp))).2, ih (fun x hx => h x (by simp [hx]))]
    exact this b.mails c7
   have hbb : (⟨(o : Int), (n : Int), b.mails⟩ : Bundle) = b := by
    rw [← ho, ← hn]
   rw [hb]
   unfold read
   rw [hh]
   simp only
   rw [if_neg (by intro e; exact e rfl), hm]
   show (if bytes (⟨(o : Int), (n : Int), b.mails⟩ : Bundle) = _ then ((⟨(o : Int), (n : Int), b.mails⟩ : Bundle), (0 : Int)) else _) = _
   rw [hbb, hb, if_pos rfl]
 ·cases h
end Go.Proofs.YtpfmnkpmidjfjaaGreatDoor.B
/- Packing, and mails' order, in plain Lean. No Go. -/
namespace Go.Proofs.YtpfmnkpmidjfjaaGreatDoor.B
set_option linter.unusedVariables false
set_option linter.unusedSimpArgs false
end Go.Proofs.YtpfmnkpmidjfjaaGreatDoor.B
/- A burst of at most 32 bits changes the sum, in plain Lean. No Go. -/
namespace Go.Proofs.YtpfmnkpmidjfjaaGreatDoor.B
set_option linter.unusedVariables false
set_option linter.unusedSimpArgs false
abbrev sh (r : Nat) : Nat := bit dv r
theorem xor_half (a b : Nat) : (a ^^^ b) / 2 = a / 2 ^^^ b / 2 := by
 have := Nat.shiftRight_xor_distrib (a := a) (b := b) (i := 1)
 simpa [Nat.shiftRight_eq_div_pow] using this
theorem xor_bit0 (a b : Nat) : (a ^^^ b) % 2 = (a + b) % 2 := by
 have h := Nat.xor_mod_two_pow (a := a) (b := b) (n := 1)
 rw [show (2 : Nat) ^ 1 = 2 from rfl] at h
 rw [h]
 rcases Nat.mod_two_eq_zero_or_one a with ha | ha <;> rcases Nat.mod_two_eq_zero_or_one b with hb | hb
 ·rw [ha, hb, Nat.add_mod, ha, hb]; rfl
 ·rw [ha, hb, Nat.add_mod, ha, hb]; rfl
 ·rw [ha, hb, Nat.add_mod, ha, hb]; rfl
 ·rw [ha, hb, Nat.add_mod, ha, hb]; rfl
theorem sh_xor (a b : Nat) : sh (a ^^^ b) = sh a ^^^ sh b := by
 unfold sh bit
 rw [xor_bit0, xor_half]
 by_cases ha : a % 2 = 1
 ·by_cases hb : b % 2 = 1
  ·rw [if_neg (by omega), if_pos ha, if_pos hb]
   rw [Nat.xor_assoc, Nat.xor_comm dv (b / 2 ^^^ dv), Nat.xor_assoc, Nat.xor_self, Nat.xor_zero]
  ·rw [if_pos (by omega), if_pos ha, if_neg hb]
   rw [Nat.xor_assoc, Nat.xor_assoc, Nat.xor_comm (b / 2) dv]
 ·by_cases hb : b % 2 = 1
  ·rw [if_pos (by omega), if_neg ha, if_pos hb, Nat.xor_assoc]
  ·rw [if_neg (by omega), if_neg ha, if_neg hb]
def shs : Nat → Nat → Nat
 | 0, r => r
 | k + 1, r => sh (shs k r)
theorem shs_xor (a b : Nat) : ∀ k, shs k (a ^^^ b) = shs k a ^^^ shs k b
 | 0 => rfl
 | k + 1 => by rw [shs, shs_xor a b k, sh_xor]; rfl
theorem sh_double (x : Nat) : sh (2 * x) = x := by
 unfold sh bit
 rw [if_neg (by omega)]
 omega
theorem shs_pow : ∀ (k x : Nat), shs k (2 ^ k * x) = x
 | 0, x => by simp [shs]
 | k + 1, x => by
  rw [shs, show 2 ^ (k + 1) * x = 2 ^ k * (2 * x) by rw [Nat.pow_succ, Nat.mul_assoc], shs_pow k (2 * x), sh_double]
theorem shs_add (x : Nat) : ∀ j k, shs (j + k) x = shs j (shs k x)
 | 0, k => by rw [Nat.zero_add]; rfl
 | j + 1, k => by rw [show j + 1 + k = (j + k) + 1 by omega, shs, shs_add x j k]; rfl
theorem bits8_shs (r : Nat) : bits8 dv r = shs 8 r := rfl
theorem sh_zero (x : Nat) (h : x < 4294967296) (hz : sh x = 0) : x = 0 := by
 unfold sh bit at hz
 by_cases ho : x % 2 = 1
 ·rw [if_pos ho] at hz
  have e : x / 2 = dv := by
   have := congrArg (fun y => y ^^^ dv) hz
   simpa [Nat.xor_assoc] using this
  unfold dv at e
  omega
 ·rw [if_neg ho] at hz
  omega
theorem sh_lt (x : Nat) (h : x < 4294967296) : sh x < 4294967296 := bit_lt x h
theorem shs_lt (x : Nat) (h : x < 4294967296) : ∀ k, shs k x < 4294967296
 | 0 => h
 | k + 1 => sh_lt _ (shs_lt x h k)
theorem shs_zero (x : Nat) (h : x < 4294967296) : ∀ k, shs k x = 0 → x = 0
 | 0, hz => hz
 | k + 1, hz => shs_zero x h k (sh_zero _ (shs_lt x h k) hz)
theorem low_high (r : Nat) : (256 * (r / 256)) ^^^ (r % 256) = r := by
 have h1 : ((256 * (r / 256)) ^^^ (r % 256)) / 256 = r / 256 := by
  have := Nat.shiftRight_xor_distrib (a := 256 * (r / 256)) (b := r % 256) (i := 8)
  simp only [Nat.shiftRight_eq_div_pow] at this
  rw [show (2 : Nat) ^ 8 = 256 from rfl] at this
  rw [this, Nat.mul_div_cancel_left _ (by decide), Nat.div_eq_of_lt (Nat.mod_lt _ (by decide)), Nat.xor_zero]
 have h2 : ((256 * (r / 256)) ^^^ (r % 256)) % 256 = r % 256 := by
  have := Nat.xor_mod_two_pow (a := 256 * (r / 256)) (b := r % 256) (n := 8)
  rw [show (2 : Nat) ^ 8 = 256 from rfl] at this
  rw [this, Nat.mul_mod_right, Nat.zero_xor, Nat.mod_mod]
 have := Nat.div_add_mod ((256 * (r / 256)) ^^^ (r % 256)) 256
 rw [h1, h2, Nat.div_add_mod] at this
 exact this.symm
theorem step_shs (r : Nat) (c : UInt8) : step dv r c = shs 8 (r ^^^ c.toNat) := by
 unfold step
 rw [bits8_shs]
 have e : r ^^^ c.toNat = (256 * (r / 256)) ^^^ ((r % 256) ^^^ c.toNat) := by rw [← Nat.xor_assoc, low_high]
 have h8 := shs_pow 8 (r / 256)
 rw [show (2 : Nat) ^ 8 = 256 from rfl] at h8
 rw [e, shs_xor (256 * (r / 256)) ((r % 256) ^^^ c.toNat) 8, h8]
def dstep (d : Nat) (p : UInt8 × UInt8) : Nat := shs 8 (d ^^^ (p.1.toNat ^^^ p.2.toNat))
def diff (d : Nat) (l : List (UInt8 × UInt8)) : Nat := l.foldl dstep d
theorem diff_cons (d : Nat) (p : UInt8 × UInt8) (l : List (UInt8 × UInt8)) : diff d (p :: l) = diff (shs 8 (d ^^^ (p.1.toNat ^^^ p.2.toNat))) l := by simp only [diff, List.foldl_cons, dstep]
theorem diff_nil (d : Nat) : diff d [] = d := by simp only [diff, List.foldl_nil]
theorem xor_four (r s a b : Nat) : (r ^^^ a) ^^^ (s ^^^ b) = (r ^^^ s) ^^^ (a ^^^ b) := by
 rw [Nat.xor_assoc, Nat.xor_assoc]
 congr 1
 rw [← Nat.xor_assoc, ← Nat.xor_assoc, Nat.xor_comm a s]
theorem fold_diff : ∀ (l : List (UInt8 × UInt8)) (r s : Nat), (l.map Prod.fst).foldl (step dv) r ^^^ (l.map Prod.snd).foldl (step dv) s = diff (r ^^^ s) l
 | [], r, s => by simp only [diff_nil, List.map_nil, List.foldl_nil]
 | p :: l, r, s => by
  have ih := fold_diff l (step dv r p.1) (step dv s p.2)
  have e : step dv r p.1 ^^^ step dv s p.2 = shs 8 ((r ^^^ s) ^^^ (p.1.toNat ^^^ p.2.toNat)) := by
   rw [step_shs, step_shs, ← shs_xor, xor_four]
  simp only [List.map_cons, List.foldl_cons, diff_cons]
  rw [ih, e]
theorem xor_ones (a b o : Nat) : (a ^^^ o) ^^^ (b ^^^ o) = a ^^^ b := by
 rw [xor_four, Nat.xor_self, Nat.xor_zero]
theorem long_diff (l : List (UInt8 × UInt8)) : long (l.map Prod.fst) ^^^ long (l.map Prod.snd) = diff 0 l := by
 have e := fold_diff l 4294967295 4294967295
 rw [Nat.xor_self] at e
 unfold long
 rw [xor_ones, e]
def spell : List (UInt8 × UInt8) → Nat
 | [] => 0
 | p :: l => (p.1.toNat ^^^ p.2.toNat) + 256 * spell l
theorem byte_lt (a b : UInt8) : a.toNat ^^^ b.toNat < 256 := Nat.xor_lt_two_pow (n := 8) a.toNat_lt b.toNat_lt
theorem spell_cons (p : UInt8 × UInt8) (l : List (UInt8 × UInt8)) : spell (p :: l) = (256 * spell l) ^^^ (p.1.toNat ^^^ p.2.toNat) := by
 rw [spell]
 have h := byte_lt p.1 p.2
 have hl := low_high ((p.1.toNat ^^^ p.2.toNat) + 256 * spell l)
 generalize p.1.toNat ^^^ p.2.toNat = x at *
 generalize spell l = y at *
 rw [show (x + 256 * y) / 256 = y by omega, show (x + 256 * y) % 256 = x by omega] at hl
 exact hl.symm
theorem diff_spell : ∀ (l : List (UInt8 × UInt8)) (d : Nat), diff d l = shs (8 * l.length) (d ^^^ spell l)
 | [], d => by
  rw [diff_nil, spell, Nat.xor_zero]
  rfl
 | p :: l, d => by
  rw [diff_cons, diff_spell l, spell_cons, List.length_cons, show 8 * (l.length + 1) = 8 * l.length + 8 by omega, shs_add]
  congr 1
  have h8 := shs_pow 8 (spell l)
  rw [show (2 : Nat) ^ 8 = 256 from rfl] at h8
  have e : d ^^^ ((256 * spell l) ^^^ (p.1.toNat ^^^ p.2.toNat)) = (d ^^^ (p.1.toNat ^^^ p.2.toNat)) ^^^ (256 * spell l) := by
   rw [Nat.xor_comm (256 * spell l) (p.1.toNat ^^^ p.2.toNat), Nat.xor_assoc d]
  rw [e, shs_xor (d ^^^ (p.1.toNat ^^^ p.2.toNat)) (256 * spell l) 8, h8]
theorem burst (l : List (UInt8 × UInt8)) (s n : Nat) (hn : 0 < n) (hn2 : n < 4294967296) (hs : spell l = 2 ^ s * n) (hsl : s ≤ 8 * l.length) : long (l.map Prod.fst) ≠ long (l.map Prod.snd) := by
 intro e
 have h1 := long_diff l
 rw [e, Nat.xor_self, diff_spell l 0, Nat.zero_xor, hs] at h1
 obtain ⟨k, hk⟩ : ∃ k, 8 * l.length = k + s := ⟨8 * l.length - s, by omega⟩
 rw [hk, shs_add, shs_pow] at h1
 have := shs_zero n hn2 k h1.symm
 omega
end Go.Proofs.YtpfmnkpmidjfjaaGreatDoor.B
/- Bodies, as the reference goes over them byte by byte, in plain Lean. No Go. -/
namespace Go.Proofs.YtpfmnkpmidjfjaaGreatDoor.B
set_option linter.unusedVariables false
set_option linter.unusedSimpArgs false
def rbodyGo (p : UInt8) : Bs → Bool
 | [] => true
 | x :: r => if x = 13 ∧ r.head? ≠ some 10 ∨ x = 10 ∧ p ≠ 13 then false else rbodyGo x r
def rbody (b : Bs) : Bool := rbodyGo 0 b && (b.isEmpty || decide (b.getLast? = some 10))
theorem rgo_line : ∀ (u : Bs) (p : UInt8) (r : Bs), bare u = true → p ≠ 13 → rbodyGo p (u ++ 13 :: 10 :: r) = rbodyGo 10 r
 | [], p, r, _, hp => by
  show rbodyGo p (13 :: 10 :: r) = _
  rw [rbodyGo, if_neg (by simp), rbodyGo, if_neg (by simp)]
 | x :: u, p, r, h, hp => by
  obtain ⟨h1, h2⟩ := bare_no h
  have hx : x ≠ 13 ∧ x ≠ 10 := ⟨fun e => h1 (by rw [e]; simp), fun e => h2 (by rw [e]; simp)⟩
  have hu : bare u = true := by
   unfold bare at h ⊢
   rw [List.all_cons, Bool.and_eq_true] at h
   exact h.2
  rw [List.cons_append, rbodyGo, if_neg (by simp [hx.1, hx.2]), rgo_line u x r hu hx.1]
theorem rgo_joined : ∀ (us : List Bs) (p : UInt8), (∀ u ∈ us, bare u = true) → p ≠ 13 → rbodyGo p (joined us) = true
 | [], p, _, _ => rfl
 | u :: us, p, h, hp => by
  rw [joined_cons, rgo_line u p _ (h u (by simp)) hp]
  exact rgo_joined us 10 (fun v hv => h v (by simp [hv])) (by decide)
theorem joined_last (u : Bs) (us : List Bs) : (joined (u :: us)).getLast? = some 10 := by
 induction us generalizing u with
 | nil =>
  rw [joined_cons]
  show (u ++ [13, 10]).getLast? = _
  simp
 | cons v vs ih =>
  have h := ih v
  rw [joined_cons, show u ++ 13 :: 10 :: joined (v :: vs) = (u ++ [13, 10]) ++ joined (v :: vs) by simp]
  cases hj : joined (v :: vs) with
  | nil => rw [hj] at h; cases h
  | cons x t =>
   rw [hj] at h
   rw [List.getLast?_append, h]
   rfl
theorem rgo_split : ∀ (b : Bs) (p : UInt8), p ≠ 13 → rbodyGo p b = true → bare b = true ∨ ∃ u r, bare u = true ∧ b = u ++ 13 :: 10 :: r ∧ rbodyGo 10 r = true
 | [], p, _, _ => Or.inl rfl
 | x :: b, p, hp, h => by
  rw [rbodyGo] at h
  split at h
  ·cases h
  ·rename_i hn
   by_cases hx : x = 13
   ·right
    subst hx
    have hh : b.head? = some 10 := by
     by_cases e : b.head? = some 10
     ·exact e
     ·exact absurd (Or.inl ⟨rfl, e⟩) hn
    cases b with
    | nil => cases hh
    | cons y t =>
     have hy : y = 10 := Option.some.inj hh
     subst hy
     rw [rbodyGo] at h
     split at h
     ·cases h
     ·exact ⟨[], t, rfl, rfl, h⟩
   ·by_cases hx10 : x = 10
    ·exact absurd (Or.inr ⟨hx10, hp⟩) hn
    ·have hb1 : (!decide (x = 13) && !decide (x = 10)) = true := by simp [hx, hx10]
     rcases rgo_split b x hx h with hb | ⟨u, r, hu, he, hr⟩
     ·left
      unfold bare at hb ⊢
      rw [List.all_cons, hb, hb1]
      rfl
     ·right
      refine ⟨x :: u, r, ?_, by rw [he]; rfl, hr⟩
      unfold bare at hu ⊢
      rw [List.all_cons, hu, hb1]
      rfl
theorem last_app (u r : Bs) (x : UInt8) (h : (u ++ 13 :: 10 :: r).getLast? = some x) : r = [] ∨ r.getLast? = some x := by
 cases r with
 | nil => left; rfl
 | cons y t =>
  right
  rw [show u ++ 13 :: 10 :: y :: t = (u ++ [13, 10]) ++ (y :: t) by simp, List.getLast?_append] at h
  cases hl : (y :: t).getLast? with
  | none => simp at hl
  | some z => rw [hl] at h; exact h
theorem rgo_lines (n : Nat) : ∀ (b : Bs) (p : UInt8), b.length = n → p ≠ 13 → rbodyGo p b = true → (b = [] ∨ b.getLast? = some 10) → ∃ us, (∀ u ∈ us, bare u = true) ∧ b = joined us := by
 induction n using Nat.strongRecOn with
 | _ n ih =>
  intro b p hn hp h hl
  by_cases h0 : b = []
  ·exact ⟨[], by simp, h0⟩
  ·have hl2 : b.getLast? = some 10 := by
    rcases hl with hl | hl
    ·exact absurd hl h0
    ·exact hl
   rcases rgo_split b p hp h with hb | ⟨u, r, hu, he, hr⟩
   ·obtain ⟨_, h10⟩ := bare_no hb
    exact absurd (List.mem_of_getLast? hl2) h10
   ·obtain ⟨us, h1, h2⟩ := ih r.length (by rw [← hn, he]; simp; omega) r 10 rfl (by decide) hr (last_app u r 10 (by rw [← he]; exact hl2))
    refine ⟨u :: us, ?_, by rw [joined_cons, ← h2]; exact he⟩
    intro v hv
    rcases List.mem_cons.1 hv with rfl | hv
    ·exact hu
    ·exact h1 v hv
theorem rbody_eq (b : Bs) : rbody b = body b := by
 rw [Bool.eq_iff_iff]
 constructor
 ·intro h
  unfold rbody at h
  rw [Bool.and_eq_true, Bool.or_eq_true, decide_eq_true_eq] at h
  obtain ⟨us, h1, h2⟩ := rgo_lines _ b 0 rfl (by decide) h.1 (by
   rcases h.2 with h | h
   ·left; simpa using h
   ·right; exact h)
  rw [h2]
  exact body_joined us h1
 ·intro h
  obtain ⟨h1, h2⟩ := joined_lines h
  rw [← h1]
  unfold rbody
  rw [rgo_joined (lines b) 0 h2 (by decide)]
  cases hl : lines b with
  | nil => rfl
  | cons u us => rw [joined_last]; simp
def rstuffGo (p : UInt8) : Bs → Bs
 | [] => []
 | x :: r => (if x = 46 ∧ p = 10 then [46, 46] else [x]) ++ rstuffGo x r
theorem rst_line : ∀ (u : Bs) (p : UInt8) (r : Bs), bare u = true → p ≠ 10 → rstuffGo p (u ++ 13 :: 10 :: r) = u ++ 13 :: 10 :: rstuffGo 10 r
 | [], p, r, _, hp => by
  show rstuffGo p (13 :: 10 :: r) = _
  rw [rstuffGo, if_neg (by simp), rstuffGo, if_neg (by simp)]
  rfl
 | x :: u, p, r, h, hp => by
  obtain ⟨h1, h2⟩ := bare_no h
  have hx : x ≠ 10 := fun e => h2 (by rw [e]; simp)
  have hu : bare u = true := by
   unfold bare at h ⊢
   rw [List.all_cons, Bool.and_eq_true] at h
   exact h.2
  rw [List.cons_append, rstuffGo, if_neg (by simp [hp]), rst_line u x r hu hx]
  rfl
theorem rst_joined : ∀ us : List Bs, (∀ u ∈ us, bare u = true) → rstuffGo 10 (joined us) = joined (us.map dotL)
 | [], _ => rfl
 | [] :: us, h => by
  rw [joined_cons, List.map_cons, joined_cons]
  show rstuffGo 10 (13 :: 10 :: joined us) = _
  rw [rstuffGo, if_neg (by simp), rstuffGo, if_neg (by simp), rst_joined us (fun v hv => h v (by simp [hv]))]
  rfl
 | (x :: u) :: us, h => by
  have hb := h (x :: u) (by simp)
  obtain ⟨h1, h2⟩ := bare_no hb
  have hx : x ≠ 10 := fun e => h2 (by rw [e]; simp)
  have hu : bare u = true := by
   unfold bare at hb ⊢
   rw [List.all_cons, Bool.and_eq_true] at hb
   exact hb.2
  rw [joined_cons, List.map_cons, joined_cons, List.cons_append, rstuffGo, rst_line u x _ hu hx, rst_joined us (fun v hv => h v (by simp [hv]))]
  unfold dotL
  rw [List.head?_cons]
  by_cases h46 : x = 46
  ·subst h46
   rw [if_pos ⟨rfl, rfl⟩, if_pos rfl]
   rfl
  ·rw [if_neg (fun e => h46 e.1), if_neg (fun e => h46 (Option.some.inj e))]
   rfl
theorem rstuff_eq {b : Bs} (h : body b = true) : rstuffGo 10 b ++ [46, 13, 10] = stuff b := by
 obtain ⟨h1, h2⟩ := joined_lines h
 unfold stuff
 rw [dotted_eq, ← rst_joined _ h2, h1]
def runGo (p : UInt8) : Bs → Bs
 | [] => []
 | x :: r => (if x ≠ 46 ∨ p ≠ 10 then [x] else []) ++ runGo x r
theorem run_line : ∀ (u : Bs) (p : UInt8) (r : Bs), bare u = true → p ≠ 10 → runGo p (u ++ 13 :: 10 :: r) = u ++ 13 :: 10 :: runGo 10 r
 | [], p, r, _, hp => by
  show runGo p (13 :: 10 :: r) = _
  rw [runGo, if_pos (Or.inl (by decide)), runGo, if_pos (Or.inl (by decide))]
  rfl
 | x :: u, p, r, h, hp => by
  obtain ⟨h1, h2⟩ := bare_no h
  have hx : x ≠ 10 := fun e => h2 (by rw [e]; simp)
  have hu : bare u = true := by
   unfold bare at h ⊢
   rw [List.all_cons, Bool.and_eq_true] at h
   exact h.2
  rw [List.cons_append, runGo, if_pos (Or.inr hp), run_line u x r hu hx]
  rfl
theorem run_joined : ∀ us : List Bs, (∀ u ∈ us, bare u = true) → runGo 10 (joined us) = us.flatMap undot
 | [], _ => rfl
 | [] :: us, h => by
  rw [joined_cons, List.flatMap_cons]
  show runGo 10 (13 :: 10 :: joined us) = _
  rw [runGo, if_pos (Or.inl (by decide)), runGo, if_pos (Or.inl (by decide)), run_joined us (fun v hv => h v (by simp [hv]))]
  rfl
 | (x :: u) :: us, h => by
  have hb := h (x :: u) (by simp)
  obtain ⟨h1, h2⟩ := bare_no hb
  have hx : x ≠ 10 := fun e => h2 (by rw [e]; simp)
  have hu : bare u = true := by
   unfold bare at hb ⊢
   rw [List.all_cons, Bool.and_eq_true] at hb
   exact hb.2
  rw [joined_cons, List.flatMap_cons, List.cons_append, runGo, run_line u x _ hu hx, run_joined us (fun v hv => h v (by simp [hv]))]
  unfold undot
  rw [List.head?_cons]
  by_cases h46 : x = 46
  ·subst h46
   rw [if_neg (by simp), if_pos rfl]
   simp [crlf]
  ·rw [if_pos (Or.inl h46), if_neg (fun e => h46 (Option.some.inj e))]
   simp [crlf]
theorem runGo_eq {b : Bs} (h : body b = true) : runGo 10 b = (lines b).flatMap undot := by
 obtain ⟨h1, h2⟩ := joined_lines h
 rw [← run_joined _ h2, h1]
end Go.Proofs.YtpfmnkpmidjfjaaGreatDoor.B
/- Headers that are none, in plain Lean. No Go. -/
namespace Go.Proofs.YtpfmnkpmidjfjaaGreatDoor.B
set_option linter.unusedVariables false
set_option linter.unusedSimpArgs false
def line (W : Bs) (ws : List Bs) : Bs := W ++ ws.flatMap (fun x => 32 :: x) ++ crlf
section
variable {b : Bundle}
end
end Go.Proofs.YtpfmnkpmidjfjaaGreatDoor.B
/- Where the first line that is just a dot begins, as the reference looks for it, in plain Lean. No Go. -/
namespace Go.Proofs.YtpfmnkpmidjfjaaGreatDoor.B
set_option linter.unusedVariables false
set_option linter.unusedSimpArgs false
theorem find_none : ∀ (l : Bs) (n : Nat), (∀ j, j < l.length → pat.isPrefixOf (l.drop j) = false) → find pat n l = none
 | [], n, _ => by rw [find, if_neg (by decide)]
 | x :: l, n, h => by
  have h0 := h 0 (by simp)
  rw [List.drop_zero] at h0
  rw [find, h0, if_neg (by decide)]
  exact find_none l (n + 1) (fun j hj => h (j + 1) (by simp; omega))
theorem find_at : ∀ (l : Bs) (n i : Nat), i < l.length → pat.isPrefixOf (l.drop i) = true → (∀ j, j < i → pat.isPrefixOf (l.drop j) = false) → find pat n l = some (n + i)
 | [], n, i, hi, _, _ => by simp at hi
 | x :: l, n, 0, _, h, _ => by
  rw [List.drop_zero] at h
  rw [find, h, if_pos rfl]
  rfl
 | x :: l, n, i + 1, hi, h, hn => by
  have h0 := hn 0 (by omega)
  rw [List.drop_zero] at h0
  rw [find, h0, if_neg (by decide), find_at l (n + 1) i (by simpa using hi) (by simpa using h) (fun j hj => by simpa using hn (j + 1) (by omega))]
  congr 1
  omega
def dotAt (b : Bs) (i : Nat) : Bool := ([46, 13, 10] : Bs).isPrefixOf (b.drop i) && (decide (i = 0) || decide (2 ≤ i) && ([13, 10] : Bs).isPrefixOf (b.drop (i - 2)))
theorem pre_two : ∀ (a b r : Bs), (a ++ b).isPrefixOf r = (a.isPrefixOf r && b.isPrefixOf (r.drop a.length))
 | [], b, r => by simp
 | x :: a, b, [] => by simp [List.isPrefixOf]
 | x :: a, b, y :: r => by
  have ih := pre_two a b r
  show ((x == y) && (a ++ b).isPrefixOf r) = ((x == y) && a.isPrefixOf r && b.isPrefixOf ((y :: r).drop (a.length + 1)))
  rw [ih, List.drop_succ_cons, Bool.and_assoc]
theorem dotAt_pat (b : Bs) (i : Nat) : dotAt b (i + 2) = pat.isPrefixOf (b.drop i) := by
 have h := pre_two [13, 10] [46, 13, 10] (b.drop i)
 rw [show ([13, 10] : Bs) ++ [46, 13, 10] = pat from rfl] at h
 rw [h, List.drop_drop]
 unfold dotAt
 rw [show i + 2 - 2 = i by omega, decide_eq_false (by omega), decide_eq_true (by omega), Bool.false_or, Bool.true_and, Bool.and_comm]
 rfl
theorem dotAt_one (b : Bs) : dotAt b 1 = false := by
 unfold dotAt
 simp
theorem dotAt_zero (b : Bs) : dotAt b 0 = ([46, 13, 10] : Bs).isPrefixOf b := by
 unfold dotAt
 simp
theorem pat_len {l : Bs} (h : pat.isPrefixOf l = true) : 5 ≤ l.length := by
 have := (List.isPrefixOf_iff_prefix.1 h).length_le
 simpa [pat] using this
theorem dot_none {b : Bs} (h : ∀ j, j + 2 < b.length → dotAt b j = false) : dot b = none := by
 unfold dot
 by_cases h0 : ([46, 13, 10] : Bs).isPrefixOf b = true
 ·have hl := (List.isPrefixOf_iff_prefix.1 h0).length_le
  have := h 0 (by simp at hl; omega)
  rw [dotAt_zero, h0] at this
  cases this
 ·rw [if_neg h0]
  have hf := find_none b 0 (fun j hj => by
   cases hp : pat.isPrefixOf (b.drop j) with
   | false => rfl
   | true =>
    have hl := pat_len hp
    rw [List.length_drop] at hl
    have := h (j + 2) (by omega)
    rw [dotAt_pat, hp] at this
    cases this)
  unfold pat at hf
  rw [hf]
  rfl
theorem dot_at {b : Bs} {i : Nat} (h : dotAt b i = true) (hn : ∀ j, j < i → dotAt b j = false) : dot b = some i := by
 unfold dot
 match i, h, hn with
 | 0, h, _ =>
  rw [dotAt_zero] at h
  rw [if_pos h]
 | 1, h, _ =>
  rw [dotAt_one] at h
  cases h
 | i + 2, h, hn =>
  have h0 := hn 0 (by omega)
  rw [dotAt_zero] at h0
  rw [h0, if_neg (by decide)]
  rw [dotAt_pat] at h
  have hl := pat_len h
  rw [List.length_drop] at hl
  have hf := find_at b 0 i (by omega) h (fun j hj => by rw [← dotAt_pat]; exact hn (j + 2) (by omega))
  unfold pat at hf
  rw [hf]
  show some (0 + i + 2) = _
  congr 1
  omega
end Go.Proofs.YtpfmnkpmidjfjaaGreatDoor.B
/- The reference's reading of a mail, in plain Lean. No Go. -/
namespace Go.Proofs.YtpfmnkpmidjfjaaGreatDoor.B
set_option linter.unusedVariables false
set_option linter.unusedSimpArgs false
def rtos : Nat → Nat → Bs → Option (List V.Path × Bs)
 | 0, _, _ => none
 | k + 1, n, c => match cut c with
  | none => none
  | some (line, rest) => if wTo.isPrefixOf line = true then (match V.pparse (line.drop wTo.length) with
   | none => none
   | some p => if 8 ≤ n then none else (match rtos k (n + 1) rest with
    | none => none
    | some x => some (p :: x.1, x.2))) else if line = [68, 65, 84, 65] then some ([], rest) else none
def rdmail (c : Bs) : Option (Mail × Bs) := match cutLine c wFrom with
 | none => none
 | some (p, r) => match rtos (r.length + 1) 0 r with
  | none => none
  | some (l, d) => match strip d with
   | none => none
   | some (b, n) => some (⟨p, l, b, false, [], 0⟩, d.drop n)
theorem cut_shape : ∀ {l a b : Bs}, cut l = some (a, b) → l = a ++ 13 :: 10 :: b
 | [], a, b, h => by cases h
 | x :: r, a, b, h => by
  unfold cut at h
  by_cases hx : x = 13 ∧ r.head? = some 10
  ·rw [if_pos hx] at h
   obtain ⟨rfl, rfl⟩ := Prod.mk.inj (Option.some.inj h)
   obtain ⟨rfl, h2⟩ := hx
   cases r with
   | nil => cases h2
   | cons y t =>
    have : y = 10 := Option.some.inj h2
    rw [this]
    rfl
  ·rw [if_neg hx] at h
   cases hc : cut r with
   | none => rw [hc] at h; cases h
   | some q =>
    obtain ⟨u, v⟩ := q
    rw [hc] at h
    obtain ⟨rfl, rfl⟩ := Prod.mk.inj (Option.some.inj h)
    rw [cut_shape hc]
    rfl
theorem tos_none {k : Nat} {r : Bs} (h : cutLine r wTo = none) : tos k r = ([], r) := by
 cases k with
 | zero => rfl
 | succ k => rw [tos, h]
theorem rtos_tos : ∀ (k n : Nat) (c : Bs) (l : List V.Path) (d : Bs), rtos k n c = some (l, d) → ∀ m, c.length ≤ m → tos m c = (l, wData ++ d) ∧ l.length + n ≤ 8 + (if l = [] then n else 0) := by
 intro k
 induction k with
 | zero => intro n c l d h; cases h
 | succ k ih =>
  intro n c l d h m hm
  rw [rtos] at h
  cases hc : cut c with
  | none => rw [hc] at h; cases h
  | some q =>
   obtain ⟨line, rest⟩ := q
   rw [hc] at h
   simp only at h
   have hs := cut_shape hc
   have hlen : rest.length + 2 ≤ c.length := by rw [hs, List.length_append, List.length_cons, List.length_cons]; omega
   by_cases hp : wTo.isPrefixOf line = true
   ·rw [if_pos hp] at h
    cases hq : V.pparse (line.drop wTo.length) with
    | none => rw [hq] at h; cases h
    | some p =>
     rw [hq] at h
     simp only at h
     by_cases hn : 8 ≤ n
     ·rw [if_pos hn] at h; cases h
     ·rw [if_neg hn] at h
      cases hr : rtos k (n + 1) rest with
      | none => rw [hr] at h; cases h
      | some x =>
       obtain ⟨l2, d2⟩ := x
       rw [hr] at h
       obtain ⟨rfl, rfl⟩ := Prod.mk.inj (Option.some.inj h)
       obtain ⟨m, rfl⟩ : ∃ m', m = m' + 1 := ⟨m - 1, by omega⟩
       have hcl : cutLine c wTo = some (p, rest) := by
        unfold cutLine
        rw [hc]
        simp only
        rw [if_pos hp, hq]
       obtain ⟨i1, i2⟩ := ih (n + 1) rest l2 d2 hr m (by omega)
       rw [tos, hcl]
       simp only [i1]
       refine ⟨trivial, ?_⟩
       rw [if_neg (by simp), List.length_cons]
       by_cases he : l2 = []
       ·rw [he, List.length_nil]; omega
       ·rw [if_neg he] at i2; omega
   ·rw [if_neg hp] at h
    by_cases hd : line = [68, 65, 84, 65]
    ·rw [if_pos hd] at h
     obtain ⟨rfl, rfl⟩ := Prod.mk.inj (Option.some.inj h)
     have hcl : cutLine c wTo = none := by
      unfold cutLine
      rw [hc]
      simp only
      rw [if_neg hp]
     rw [tos_none hcl, hs, hd]
     refine ⟨rfl, ?_⟩
     rw [if_pos rfl, List.length_nil]
     omega
    ·rw [if_neg hd] at h; cases h
theorem rdmail_mail {c : Bs} {x : Mail × Bs} (h : rdmail c = some x) : mail c = some x := by
 unfold rdmail at h
 unfold mail
 cases hc : cutLine c wFrom with
 | none => rw [hc] at h; cases h
 | some q =>
  obtain ⟨p, r⟩ := q
  rw [hc] at h
  simp only at h ⊢
  cases hr : rtos (r.length + 1) 0 r with
  | none => rw [hr] at h; cases h
  | some y =>
   obtain ⟨l, d⟩ := y
   rw [hr] at h
   simp only at h
   have ht := (rtos_tos _ _ _ _ _ hr r.length (Nat.le_refl _)).1
   have hd : (wData ++ d).drop 6 = d := rfl
   have hp : wData.isPrefixOf (wData ++ d) = true := List.isPrefixOf_iff_prefix.2 (List.prefix_append _ _)
   rw [ht]
   simp only
   rw [if_pos hp, hd]
   cases hs : strip d with
   | none => rw [hs] at h; cases h
   | some z =>
    obtain ⟨b, n⟩ := z
    rw [hs] at h
    simp only at h ⊢
    rw [← h, ← List.drop_drop, hd]
end Go.Proofs.YtpfmnkpmidjfjaaGreatDoor.B
/- The reference's reading of a mail finds a mail of no more than eight recipients. No Go. -/
namespace Go.Proofs.YtpfmnkpmidjfjaaGreatDoor.B
set_option linter.unusedVariables false
set_option linter.unusedSimpArgs false
theorem tos_rtos : ∀ (m : Nat) (c : Bs) (l : List V.Path) (d : Bs), tos m c = (l, d) → wData.isPrefixOf d = true → ∀ k n, c.length < k → n + l.length ≤ 8 → rtos k n c = some (l, d.drop 6) := by
 intro m
 have stop : ∀ (c d : Bs), cutLine c wTo = none → c = d → wData.isPrefixOf d = true → ∀ k n, c.length < k → rtos k n c = some ([], d.drop 6) := by
  intro c d hcl e hp k n hk
  subst e
  obtain ⟨k, rfl⟩ : ∃ k', k = k' + 1 := ⟨k - 1, by omega⟩
  obtain ⟨t, rfl⟩ := List.isPrefixOf_iff_prefix.1 hp
  have hc : cut (wData ++ t) = some ([68, 65, 84, 65], t) := by
   show cut (68 :: 65 :: 84 :: 65 :: 13 :: 10 :: t) = _
   simp [cut]
  rw [rtos, hc]
  simp only
  rw [if_neg (by decide), if_pos trivial]
  rfl
 induction m with
 | zero =>
  intro c l d h hp k n hk hn
  obtain ⟨rfl, e⟩ := Prod.mk.inj h
  subst e
  cases hcl : cutLine c wTo with
  | none => exact stop c c hcl rfl hp k n hk
  | some q =>
   exfalso
   unfold cutLine at hcl
   obtain ⟨t, rfl⟩ := List.isPrefixOf_iff_prefix.1 hp
   have hc : cut (wData ++ t) = some ([68, 65, 84, 65], t) := by
    show cut (68 :: 65 :: 84 :: 65 :: 13 :: 10 :: t) = _
    simp [cut]
   rw [hc] at hcl
   simp only at hcl
   rw [if_neg (by decide)] at hcl
   cases hcl
 | succ m ih =>
  intro c l d h hp k n hk hn
  rw [tos] at h
  cases hcl : cutLine c wTo with
  | none =>
   rw [hcl] at h
   obtain ⟨rfl, e⟩ := Prod.mk.inj h
   exact stop c d hcl e hp k n hk
  | some q =>
   obtain ⟨p, r⟩ := q
   rw [hcl] at h
   simp only at h
   obtain ⟨rfl, e⟩ := Prod.mk.inj h
   unfold cutLine at hcl
   cases hc : cut c with
   | none => rw [hc] at hcl; cases hcl
   | some z =>
    obtain ⟨line, rest⟩ := z
    rw [hc] at hcl
    simp only at hcl
    have hs := cut_shape hc
    have hlen : rest.length + 2 ≤ c.length := by rw [hs, List.length_append, List.length_cons, List.length_cons]; omega
    by_cases hw : wTo.isPrefixOf line = true
    ·rw [if_pos hw] at hcl
     cases hq : V.pparse (line.drop wTo.length) with
     | none => rw [hq] at hcl; cases hcl
     | some p2 =>
      rw [hq] at hcl
      obtain ⟨rfl, rfl⟩ := Prod.mk.inj (Option.some.inj hcl)
      obtain ⟨k, rfl⟩ : ∃ k', k = k' + 1 := ⟨k - 1, by omega⟩
      rw [List.length_cons] at hn
      have hi := ih rest (tos m rest).1 d (Prod.ext rfl e) hp k (n + 1) (by omega) (by omega)
      rw [rtos, hc]
      simp only
      rw [if_pos hw, hq]
      simp only
      rw [if_neg (by omega), hi]
    ·rw [if_neg hw] at hcl
     cases hcl
theorem mail_rdmail {c : Bs} {x : Mail × Bs} (h : mail c = some x) (hl : x.1.to.length ≤ 8) : rdmail c = some x := by
 unfold mail at h
 unfold rdmail
 cases hc : cutLine c wFrom with
 | none => rw [hc] at h; cases h
 | some q =>
  obtain ⟨p, r⟩ := q
  rw [hc] at h
  simp only at h ⊢
  obtain ⟨l, d, ht⟩ : ∃ l d, tos r.length r = (l, d) := ⟨_, _, rfl⟩
  rw [ht] at h
  simp only at h
  by_cases hp : wData.isPrefixOf d = true
  ·rw [if_pos hp] at h
   cases hs : strip (d.drop 6) with
   | none => rw [hs] at h; cases h
   | some z =>
    obtain ⟨b, n⟩ := z
    rw [hs] at h
    simp only at h
    have e := Option.some.inj h
    have hl2 : l.length ≤ 8 := by rw [← e] at hl; exact hl
    rw [tos_rtos _ _ _ _ ht hp (r.length + 1) 0 (by omega) (by omega)]
    simp only
    rw [hs]
    simp only
    rw [← e, List.drop_drop]
  ·rw [if_neg hp] at h; cases h
end Go.Proofs.YtpfmnkpmidjfjaaGreatDoor.B
/- The reference's reading of a bundle answers as the plain one. No Go. -/
namespace Go.Proofs.YtpfmnkpmidjfjaaGreatDoor.B
set_option linter.unusedVariables false
set_option linter.unusedSimpArgs false
def rdmails : Nat → Bs → List Mail
 | 0, _ => []
 | k + 1, c => match rdmail c with
  | none => []
  | some (m, r) => m :: rdmails k r
def rread (t : Bs) : Bundle × Int := match headOf t with
 | none => (none0, 5)
 | some (vs, c) => if vs.getD 4 0 ≠ (long c : Int) then (none0, 6) else
  if bytes ⟨vs.getD 0 0, vs.getD 1 0, rdmails 5 c⟩ = (t, 0) then (⟨vs.getD 0 0, vs.getD 1 0, rdmails 5 c⟩, 0) else (none0, 5)
theorem rdmails_same : ∀ (k : Nat) (c : Bs), (∀ m ∈ mails k c, m.to.length ≤ 8) → rdmails k c = mails k c
 | 0, c, h => rfl
 | k + 1, c, h => by
  rw [rdmails, mails]
  rw [mails] at h
  cases hm : mail c with
  | none =>
   cases hr : rdmail c with
   | none => rfl
   | some x => rw [rdmail_mail hr] at hm; cases hm
  | some x =>
   rw [hm] at h
   obtain ⟨m, r⟩ := x
   simp only at h
   rw [mail_rdmail hm (h m (List.mem_cons_self ..))]
   simp only
   rw [rdmails_same k r (fun y hy => h y (List.mem_cons_of_mem _ hy))]
theorem bytes_check {b : Bundle} {t : Bs} (h : bytes b = (t, 0)) : ∀ m ∈ b.mails, m.to.length ≤ 8 := by
 unfold bytes at h
 by_cases hc : check b = true
 ·intro m hm
  unfold check at hc
  simp only [Bool.and_eq_true, List.all_eq_true, decide_eq_true_eq] at hc
  have hr : right m = true := by
   have := hc.2.2.2.2.2.2
   exact this m hm
  unfold right sole at hr
  simp only [Bool.and_eq_true, decide_eq_true_eq] at hr
  exact hr.1.2.2.1
 ·rw [if_neg hc] at h
  cases h
theorem rread_eq (t : Bs) : rread t = read t := by
 unfold rread
 cases hh : headOf t with
 | none => unfold read; rw [hh]
 | some q =>
  obtain ⟨vs, c⟩ := q
  simp only
  by_cases hl : vs.getD 4 0 ≠ (long c : Int)
  ·rw [if_pos hl]; unfold read; rw [hh]; simp only; rw [if_pos hl]
  ·have hrd : read t = if bytes ⟨vs.getD 0 0, vs.getD 1 0, mails 5 c⟩ = (t, 0) then (⟨vs.getD 0 0, vs.getD 1 0, mails 5 c⟩, 0) else (none0, 5) := by
    unfold read; rw [hh]; simp only; rw [if_neg hl]
   rw [if_neg hl]
   by_cases h2 : bytes ⟨vs.getD 0 0, vs.getD 1 0, mails 5 c⟩ = (t, 0)
   ·rw [rdmails_same 5 c (bytes_check h2), hrd]
   ·rw [if_neg h2] at hrd
    rw [hrd, if_neg]
    intro h1
    have := (read_bytes (b := ⟨vs.getD 0 0, vs.getD 1 0, rdmails 5 c⟩) (by rw [h1])).1
    rw [h1] at this
    simp only at this
    rw [hrd] at this
    have h9 : (5 : Int) = 0 := congrArg Prod.snd this
    exact absurd h9 (by decide)
end Go.Proofs.YtpfmnkpmidjfjaaGreatDoor.B
