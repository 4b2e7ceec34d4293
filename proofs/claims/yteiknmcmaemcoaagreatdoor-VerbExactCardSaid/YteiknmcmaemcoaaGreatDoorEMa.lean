/- Texts of this seat, one behind the other: the plain law, the walks. -/
import Derived.Test.YteiknmcmaemcoaaGreatDoorEXa
import Derived.Lib.SplitLaws
import Derived.Lib.Strings
import Derived.Test.YteiknmcmaemcoaaGreatDoorProg
import Derived.WalkKit
import Derived.WalkLawsBesides
import Derived.Outline
import Derived.LoopTactic
import Derived.Lib.Hide
import Derived.Deep.QuietTactic
import Derived.BigQuiet
import Derived.Deep.LoopGhost
import Derived.Deep.DeepCutAuto
import Derived.Deep.CutBlock
import Derived.Deep.RegionHeld3
import Derived.Deep.RegionWith
import Derived.Deep.WholeRow
import Derived.Laws.Rows
import Derived.Laws.Tables
import Derived.Laws.ResultCell
import Derived.StillTailTactics
import Derived.Deep.DeepMust
import Derived.IntWalk
import Derived.KernelRfl
import Derived.RegionTactic
import Derived.Laws.IdiomStrings
import Derived.Laws.BytesArg
import Derived.Test.YteiknmcmaemcoaaGreatDoorShelf
import Derived.Lib.SliceRun
import Derived.Lib.SmallJoins
import Derived.Maps.OwnSet
import Derived.Laws.EntriesVeiled
/- Mailboxes in plain Lean: what path's functions answer. No Go. -/
namespace Go.Proofs.YteiknmcmaemcoaaGreatDoor.V
set_option linter.unusedVariables false
set_option linter.unusedSimpArgs false
abbrev Bs := List UInt8
def low (c : UInt8) : UInt8 := if 65 ≤ c ∧ c ≤ 90 then c + 32 else c
/-- A text with small letters. -/
def fold (l : Bs) : Bs := l.map low
def isPlain (c : UInt8) : Bool := decide (97 ≤ c ∧ c ≤ 122) || decide (65 ≤ c ∧ c ≤ 90) || decide (48 ≤ c ∧ c ≤ 57)
def marks : Bs := [33, 35, 36, 37, 38, 39, 42, 43, 45, 47, 61, 63, 94, 95, 96, 123, 124, 125, 126]
def atom (l : Bs) : Bool := l.all (fun c => isPlain c || marks.contains c) && !l.isEmpty
def label (l : Bs) : Bool := l.all (fun c => isPlain c || c == 45) && !l.isEmpty && decide (l.length ≤ 63) && l.head? != some 45 && l.getLast? != some 45
/-- The parts between signs. -/
def splitOn (c : UInt8) : Bs → List Bs
  | [] => [[]]
  | x :: l => if x = c then [] :: splitOn c l else match splitOn c l with
    | [] => [[x]]
    | h :: t => (x :: h) :: t
def parts (l : Bs) (most : Nat) (is : Bs → Bool) : Bool := decide (l.length ≤ most) && (splitOn 46 l).all is
def localOk (l : Bs) : Bool := parts l 64 atom
def domain (l : Bs) : Bool := parts l 255 label
structure Path where
  null : Bool
  loc : Bs
  dom : Bs
deriving DecidableEq
def noPath : Path := ⟨false, [], []⟩
def check (p : Path) : Bool := (p.null && p.loc.isEmpty && p.dom.isEmpty) || (!p.null && localOk p.loc && domain p.dom)
/-- A mailbox's text; of one that is none: none. -/
def ptext (p : Path) : Option Bs := if check p then (if p.null then some [60, 62] else some (60 :: p.loc ++ 64 :: p.dom ++ [62])) else none
/-- What stands ahead of a sign, and behind it. -/
def cutAt (c : UInt8) : Bs → Option (Bs × Bs)
  | [] => none
  | x :: l => if x = c then some ([], l) else match cutAt c l with
    | none => none
    | some (a, b) => some (x :: a, b)
def pparse (l : Bs) : Option Path :=
  if l = [60, 62] then some ⟨true, [], []⟩ else
  if l.head? = some 60 ∧ l.tail.getLast? = some 62 then
    match cutAt 64 (l.tail.dropLast) with
    | none => none
    | some (a, b) => if check ⟨false, a, b⟩ then some ⟨false, a, b⟩ else none
  else none
theorem splitOn_ne (c : UInt8) (l : Bs) : splitOn c l ≠ [] := by
  cases l with
  | nil => simp [splitOn]
  | cons x l =>
    unfold splitOn
    split
    · simp
    · split <;> simp
theorem index_one (c : UInt8) : ∀ l : Bs, Lib.index l [c] = match cutAt c l with | none => -1 | some (a, _) => (a.length : Int)
  | [] => by simp [Lib.index, cutAt]
  | x :: l => by
    have ih := index_one c l
    unfold Lib.index cutAt
    by_cases h : x = c
    · subst h; simp [List.isPrefixOf]
    · have h' : ([c] : Bs).isPrefixOf (x :: l) = false := by simp [List.isPrefixOf, Ne.symm h]
      rw [h', if_neg h, ih]
      cases hc : cutAt c l with
      | none => simp
      | some ab =>
        obtain ⟨a, b⟩ := ab
        simp
theorem cutAt_some {c : UInt8} : ∀ {l a b : Bs}, cutAt c l = some (a, b) → l = a ++ c :: b ∧ c ∉ a
  | [], a, b, h => by simp [cutAt] at h
  | x :: l, a, b, h => by
    unfold cutAt at h
    by_cases hx : x = c
    · rw [if_pos hx] at h; simp at h; obtain ⟨rfl, rfl⟩ := h; simp [hx]
    · rw [if_neg hx] at h
      cases hc : cutAt c l with
      | none => rw [hc] at h; simp at h
      | some ab =>
        obtain ⟨a', b'⟩ := ab
        rw [hc] at h; simp at h
        obtain ⟨rfl, rfl⟩ := h
        obtain ⟨h1, h2⟩ := cutAt_some hc
        exact ⟨by simp [h1], by simp [h2, Ne.symm hx]⟩
theorem cutAt_none {c : UInt8} : ∀ {l : Bs}, cutAt c l = none ↔ c ∉ l
  | [] => by simp [cutAt]
  | x :: l => by
    unfold cutAt
    by_cases hx : x = c
    · simp [hx]
    · rw [if_neg hx]
      have ih := cutAt_none (c := c) (l := l)
      cases hc : cutAt c l with
      | none => simp [Ne.symm hx, ih.1 hc]
      | some ab =>
        have : ¬ c ∉ l := fun h => by rw [ih.2 h] at hc; cases hc
        simp at this
        simp [this]
theorem cut_one (c : UInt8) (l : Bs) : Lib.cut l [c] = match cutAt c l with | none => (l, [], false) | some (a, b) => (a, b, true) := by
  unfold Lib.cut
  rw [index_one]
  cases hc : cutAt c l with
  | none => simp
  | some ab =>
    obtain ⟨a, b⟩ := ab
    obtain ⟨rfl, h⟩ := cutAt_some hc
    simp
theorem splitOn_cut (c : UInt8) : ∀ l : Bs, splitOn c l = match cutAt c l with | none => [l] | some (a, b) => a :: splitOn c b
  | [] => by simp [splitOn, cutAt]
  | x :: l => by
    have ih := splitOn_cut c l
    rw [splitOn, cutAt]
    by_cases hx : x = c
    · simp only [if_pos hx]
    · simp only [if_neg hx, ih]
      cases hc : cutAt c l with
      | none => rfl
      | some ab => obtain ⟨a, b⟩ := ab; rfl
theorem count_cut (c : UInt8) (l : Bs) : Lib.count l [c] = match cutAt c l with | none => 0 | some (_, b) => 1 + Lib.count b [c] := by
  rw [Lib.count_one]
  cases hc : cutAt c l with
  | none => simp only; exact List.count_eq_zero.2 (cutAt_none.1 hc)
  | some ab =>
    obtain ⟨a, b⟩ := ab
    obtain ⟨rfl, h⟩ := cutAt_some hc
    simp only
    rw [Lib.count_one, List.count_append, List.count_cons_self, List.count_eq_zero.2 h]
    omega
theorem splitK_one (c : UInt8) : ∀ (k : Nat) (l : Bs), Lib.count l [c] = k → Lib.splitK [c] 0 k l = splitOn c l
  | 0, l, h => by
    rw [splitOn_cut]
    rw [count_cut] at h
    cases hc : cutAt c l with
    | none => rfl
    | some ab => rw [hc] at h; simp at h
  | k + 1, l, h => by
    rw [splitOn_cut]
    rw [count_cut] at h
    cases hc : cutAt c l with
    | none => rw [hc] at h; simp at h
    | some ab =>
      obtain ⟨a, b⟩ := ab
      rw [hc] at h
      simp only at h
      unfold Lib.splitK
      rw [index_one, hc]
      have ih := splitK_one c k b (by omega)
      obtain ⟨rfl, hn⟩ := cutAt_some hc
      have h1 : ¬ ((((a.length : Int)) == -1) = true) := by simp
      simp only
      rw [if_neg h1]
      simp [ih]
theorem splitB_one (c : UInt8) (s : ByteArray) : (Lib.splitB ⟨#[c]⟩ 0 (Lib.countB s ⟨#[c]⟩) s).map (·.data.toList) = splitOn c s.data.toList := by
  rw [Lib.splitB_data]
  exact splitK_one c _ _ rfl
theorem split_list (c : UInt8) (s : ByteArray) : Lib.splitB ⟨#[c]⟩ 0 (Lib.countB s ⟨#[c]⟩) s = (splitOn c s.data.toList).map fun l => (⟨l.toArray⟩ : ByteArray) := by
  rw [← splitB_one, List.map_map]
  conv => lhs; rw [← List.map_id (Lib.splitB _ _ _ _)]
  apply List.map_congr_left
  intro x _
  rfl
theorem split_len (c : UInt8) (s : ByteArray) : Lib.countB s ⟨#[c]⟩ + 1 = (splitOn c s.data.toList).length := by
  rw [← splitB_one, List.length_map, Lib.splitB_all _ (by show 1 ≤ 1; omega) 0 _ s rfl]
theorem fold_length (l : Bs) : (fold l).length = l.length := by simp [fold]
theorem low_low (c : UInt8) : low (low c) = low c := by
  have h : ∀ n, n < 256 → low (low (UInt8.ofNat n)) = low (UInt8.ofNat n) := by decide +kernel
  have := h c.toNat c.toNat_lt
  simpa using this
theorem fold_fold (l : Bs) : fold (fold l) = fold l := by simp [fold, low_low]
theorem hasPrefix_one (c : UInt8) (l : Bs) : Lib.hasPrefix l [c] = decide (l.head? = some c) := by
  cases l with
  | nil => simp [Lib.hasPrefix, List.isPrefixOf]
  | cons x l =>
    show (c == x && List.isPrefixOf [] l) = decide (some x = some c)
    by_cases h : x = c
    · subst h; simp
    · have h2 : ¬ c = x := fun e => h e.symm
      simp [h, h2]
theorem trimPrefix_one (c : UInt8) (l : Bs) : Lib.trimPrefix l [c] = if l.head? = some c then l.tail else l := by
  unfold Lib.trimPrefix
  rw [hasPrefix_one]
  by_cases h : l.head? = some c
  · simp [h]
  · simp [h]
theorem hasSuffix_one (c : UInt8) (l : Bs) : Lib.hasSuffix l [c] = decide (l.getLast? = some c) := by
  have h : Lib.hasSuffix l [c] = Lib.hasPrefix l.reverse [c] := by
    simp [Lib.hasSuffix, Lib.hasPrefix, List.isSuffixOf]
  rw [h, hasPrefix_one, List.head?_reverse]
theorem trimSuffix_one (c : UInt8) (l : Bs) : Lib.trimSuffix l [c] = if l.getLast? = some c then l.dropLast else l := by
  unfold Lib.trimSuffix
  rw [hasSuffix_one]
  by_cases h : l.getLast? = some c
  · simp [h, List.dropLast_eq_take]
  · simp [h]
end Go.Proofs.YteiknmcmaemcoaaGreatDoor.V
/- What path's Fold answers. -/
namespace Go.Proofs.YteiknmcmaemcoaaGreatDoor
open Go.RowKit
open Go.Proofs.YteiknmcmaemcoaaGreatDoorW.PrintWords
set_option linter.unusedVariables false
set_option linter.unusedSimpArgs false
/-- A list of bytes as a string. -/
def str (l : V.Bs) : ByteArray := ⟨l.toArray⟩
def lst (s : ByteArray) : V.Bs := s.data.toList
theorem str_lst (s : ByteArray) : str (lst s) = s := by cases s; simp [str, lst]
theorem lst_str (l : V.Bs) : lst (str l) = l := by simp [str, lst]
theorem lst_length (s : ByteArray) : (lst s).length = s.size := by rw [lst, Array.length_toList]; rfl
theorem str_size (l : V.Bs) : (str l).size = l.length := by rw [← lst_length, lst_str]
theorem str_inj {a b : V.Bs} : str a = str b ↔ a = b := ⟨fun h => by rw [← lst_str a, h, lst_str], fun h => by rw [h]⟩
theorem str_eqB (a b : ByteArray) : (a.toList == b.toList) = decide (lst a = lst b) := by
  have e : ∀ s : ByteArray, s.toList = lst s := fun s => ByteArray.toList_eq s
  rw [e, e, Bool.eq_iff_iff]; simp
/-- A text folded. -/
def foldB (s : ByteArray) : ByteArray := str (V.fold (lst s))
theorem frozen_row {w : World} {b j k m t : Nat} {cs : Array Value} (h : w.heap[b]? = some (.cells cs t (k, m))) (hj : j < k) : w.frozen? ⟨b, j, none⟩ = false := by
  simp [World.frozen?, h]
  try omega
theorem setCell_row (w : World) (g i : Nat) (cs : Array Value) (t : TypeId) (fr : Nat × Nat) (v : Value) (hg : w.heap[g]? = some (.cells cs t fr)) :
    (w.setCell ⟨g, i, none⟩ v).heap[g]? = some (.cells (cs.setIfInBounds i v) t fr) := by
  rw [setCell_eq_setRow w g i cs t fr v hg]
  exact setRow_heap w g cs _ t _ hg
theorem bytes_conv (s : ByteArray) : ∃ (cp : World → Nat) (W1 : World → World) (cs : World → Array Value) (kk : World → Nat), ∀ w, (convert 9 62 (.string s)).run Tryz.prog w = .ok (.slice (some ⟨w.heap.size, 0, none⟩) s.size (cp w)) (W1 w) ∧ Below w.heap.size w (W1 w) ∧ (W1 w).heap[w.heap.size]? = some (.cells (cs w) 5 (kk w, kk w + 1)) ∧ (∀ j, j < s.size → (cs w)[j]? = some (.int .u8 ((lst s).getD j 0).toNat)) ∧ s.size ≤ kk w ∧ s.size ≤ cp w := by
  refine ⟨fun w => grownCap w s.size 0 5, fun w => _, fun w => bytesRow s (grownCap w s.size 0 5), fun w => (bytesRow s (grownCap w s.size 0 5)).size, fun w => ⟨run_bytes_of_string w 9 62 5 s Tryz.underlying9 Tryz.underlying62 Tryz.underlying5, ?_, ?_, ?_, ?_, ?_⟩⟩
  · exact ((Below.refl _ _).drew).alloc (Nat.le_refl _) _
  · exact heap_alloc_new w.drew _
  · intro j hj
    rw [bytesRow_at s _ j hj]
    have e : (lst s)[j]? = some (s.data[j]) := by
      rw [lst, Array.getElem?_toList, Array.getElem?_eq_getElem hj]
    rw [List.getD_eq_getElem?_getD, e]; rfl
  · simp only [bytesRow]
    simp
  · exact grownCap_ge _ _ _ _
/-- What stands at j behind n rounds. -/
def half (l : V.Bs) (n j : Nat) : UInt8 := if j < n then V.low (l.getD j 0) else l.getD j 0
theorem low_up (c : UInt8) (h0 : 65 ≤ c.toNat) (h1 : c.toNat ≤ 90) : ((V.low c).toNat : Int) = IntKind.u8.wrap (IntKind.u8.wrap ((c.toNat : Int) + 97) - 65) := by
  have h : ∀ n, n < 256 → 65 ≤ n → n ≤ 90 → ((V.low (UInt8.ofNat n)).toNat : Int) = IntKind.u8.wrap (IntKind.u8.wrap ((n : Int) + 97) - 65) := by decide +kernel
  have := h c.toNat c.toNat_lt h0 h1
  simpa using this
theorem low_not (c : UInt8) (h : ¬ (65 ≤ c.toNat ∧ c.toNat ≤ 90)) : V.low c = c := by
  unfold V.low
  rw [if_neg]
  intro h'
  simp only [UInt8.le_iff_toNat_le] at h'
  exact h h'
theorem half_all (l : V.Bs) (n : Nat) : (l.length = n) → strOfNums ((List.range n).map fun j => ((half l n j).toNat : Int)) = str (V.fold l) := by
  intro hn
  subst hn
  apply ByteArray.ext
  simp only [strOfNums, str]
  congr 1
  rw [List.map_map]
  apply List.ext_getElem?
  intro i
  simp only [List.getElem?_map, V.fold]
  by_cases hi : i < l.length
  · rw [List.getElem?_range hi]
    simp [half, hi]
  · rw [List.getElem?_eq_none (by simp; omega), List.getElem?_eq_none (by omega)]
    rfl
set_option maxRecDepth 100000 in
set_option maxHeartbeats 1000000 in
theorem fold_any (s : ByteArray) (w : World) (hs : s.size ≤ 1000000) :
    Calls Tryz.prog 19 #[.string s] w fun e w' => e = .returned (.string (foldB s)) ∧ Below w.heap.size w w' := by
  obtain ⟨cp, W1, cs, kk, hcv⟩ := bytes_conv s
  have hcr := fun w => (hcv w).1
  have HCV := Aside0.mk (fun w => (hcv w).2)
  clear hcv
  go_enter Tryz.func19, Tryz.ntmps19
  go_wp2_with (fail)
  go_loopg [10] s.size (fun g v10 wr => ∃ (n : Nat) (cs' : Array Value) (k m : Nat), n ≤ s.size ∧ g + n = s.size ∧ v10 = .int .i64 n ∧ Aside0 (wr.heap[w.heap.size]? = some (.cells cs' 5 (k, m)) ∧ s.size ≤ k ∧ (∀ j, j < s.size → cs'[j]? = some (.int .u8 (half (lst s) n j).toNat)) ∧ Below w.heap.size w wr))
  case atStart =>
    obtain ⟨h1, h2, h3, h4, h5⟩ := HCV.out w
    exact ⟨0, _, _, _, by omega, by omega, rfl, ⟨h2, h4, fun j hj => by rw [h3 j hj]; simp [half], h1⟩⟩
  case round =>
    obtain ⟨n, cs', k, m, hn, hg, rfl, H⟩ := hrel
    obtain ⟨wx, rfl⟩ : ∃ wz : World, wz = wr := ⟨_, rfl⟩
    by_cases hlt : n < s.size
    · obtain ⟨hb, hk, hc, hB⟩ := H.out
      have hcell : wx.cell? ⟨w.heap.size, n, none⟩ = some (.int .u8 (half (lst s) n n).toNat) := by rw [cell_of_row wx _ _ _ _ _ hb]; exact hc n hlt
      have hfr : wx.frozen? ⟨w.heap.size, n, none⟩ = false := frozen_row hb (by omega)
      have e0 : half (lst s) n n = (lst s).getD n 0 := by simp [half]
      rw [e0] at hcell
      obtain ⟨c, hc0⟩ : ∃ c, c = (lst s).getD n 0 := ⟨_, rfl⟩
      rw [← hc0] at hcell
      obtain ⟨x, hx⟩ : ∃ x : Int, x = (c.toNat : Int) := ⟨_, rfl⟩
      rw [← hx] at hcell
      have hx0 : 0 ≤ x := by omega
      have hx1 : x < 256 := by have := c.toNat_lt; omega
      have hlt' : (n : Int) < (s.size : Int) := by omega
      have h0 : (0 : Int) ≤ (n : Int) := by omega
      have HX := Aside0.mk hx
      have HC := Aside0.mk hc0
      have HR := Aside0.mk (And.intro hb (And.intro hk (And.intro hc hB)))
      clear hx hc0 hb hk hc hB e0 H HCV hcr
      go_wp2_with (fail)
      · go_roundg (gk - 1)
        case measure => omega
        case rel =>
          obtain ⟨hb, hk, hc, hB⟩ := HR.out
          refine ⟨n + 1, _, _, _, by omega, by omega, by go_num, ⟨setCell_row _ _ _ _ _ _ _ hb, hk, fun j hj => ?_, hB.setCell (Nat.le_refl _) _⟩⟩
          have hx := HX.out
          by_cases hjn : n = j
          · subst hjn
            have hsz : n < cs'.size := (Array.getElem?_eq_some_iff.1 (hc n hj)).1
            rw [Array.getElem?_setIfInBounds_self_of_lt hsz]
            have e1 : half (lst s) (n + 1) n = V.low c := by unfold half; rw [if_pos (by omega), ← HC.out]
            rw [e1]
            unfold V.low
            rw [if_pos (by simp only [UInt8.le_iff_toNat_le]; constructor <;> (simp; omega))]
            congr 3
            rw [UInt8.toNat_add]
            simp
            omega
          · rw [Array.getElem?_setIfInBounds_ne hjn, hc j hj]
            congr 4
            unfold half
            by_cases hj2 : j < n
            · rw [if_pos hj2, if_pos (by omega)]
            · rw [if_neg hj2, if_neg (by omega)]
      all_goals
        go_roundg (gk - 1)
        case measure => omega
        case rel =>
          obtain ⟨hb, hk, hc, hB⟩ := HR.out
          refine ⟨n + 1, _, _, _, by omega, by omega, by go_num, ⟨hb, hk, fun j hj => ?_, hB⟩⟩
          have hx := HX.out
          rw [hc j hj]
          congr 4
          unfold half
          by_cases hjn : n = j
          · subst hjn
            rw [if_neg (by omega), if_pos (by omega), ← HC.out, low_not c (by omega)]
          · by_cases hj2 : j < n
            · rw [if_pos hj2, if_pos (by omega)]
            · rw [if_neg hj2, if_neg (by omega)]
    · have hne : n = s.size := by omega
      subst hne
      obtain ⟨hb, hk, hc, hB⟩ := H.out
      have hstr : (convert 62 9 (.slice (some ⟨w.heap.size, 0, none⟩) s.size (cp w))).run Tryz.prog wx = .ok (.string (foldB s)) wx := by
        have h := run_convert_bytes_arg (P := Tryz.prog) wx 62 5 Tryz.underlying62 Tryz.underlying5 w.heap.size 0 s.size (cp w) ((List.range s.size).map fun j => ((half (lst s) s.size j).toNat : Int)) (by simp) (fun i hi => by
          rw [Nat.zero_add, cell_of_row wx _ _ _ _ _ hb, hc i hi]
          simp [List.getD_eq_getElem?_getD, hi]) 9 Tryz.underlying9
        rw [half_all _ _ (lst_length s)] at h
        exact h
      have HB := Aside0.mk hB
      clear hb hk hc hB H HCV hcr
      go_wp2_with (fail)
      go_ret
      exact ⟨rfl, HB.out⟩
end Go.Proofs.YteiknmcmaemcoaaGreatDoor
/- What path's small functions answer: plain, atom, label. -/
namespace Go.Proofs.YteiknmcmaemcoaaGreatDoor
open Go.RowKit
open Go.Proofs.YteiknmcmaemcoaaGreatDoorW.PrintWords
set_option linter.unusedVariables false
set_option linter.unusedSimpArgs false
theorem plain_any (c : UInt8) (x : Int) (hx : x = (c.toNat : Int)) (w : World) :
    Calls Tryz.prog 84 #[.int .u8 x] w fun e w' => e = .returned (.bool (V.isPlain c)) ∧ w' = w := by
  have hv : V.isPlain c = (decide (97 ≤ x ∧ x ≤ 122) || decide (65 ≤ x ∧ x ≤ 90) || decide (48 ≤ x ∧ x ≤ 57)) := by
    subst hx
    unfold V.isPlain
    simp only [UInt8.le_iff_toNat_le]
    congr 1
    · congr 1
      · apply decide_eq_decide.2
        constructor <;> (simp; omega)
      · apply decide_eq_decide.2
        constructor <;> (simp; omega)
    · apply decide_eq_decide.2
      constructor <;> (simp; omega)
  have HV := Aside0.mk hv
  clear hv hx
  go_enter Tryz.func84, Tryz.ntmps84
  go_wp2_with (fail)
  all_goals (go_ret; refine ⟨?_, rfl⟩; rw [HV.out]; refine congrArg Ending.returned ?_; show Value.bool _ = Value.bool _; congr 1; rw [Bool.eq_iff_iff]; simp; omega)
/-- The byte that an index tells. -/
theorem index_str (s : ByteArray) (n : Nat) (h : n < s.size) (c : UInt8) (hc : c = (lst s).getD n 0) (x : Int) (hx : x = (c.toNat : Int)) (w : World) : (Instr.index 9 (.string s) (.int .i64 (n : Int))).run Tryz.prog w = .ok (.int .u8 x) w := by
  subst hx hc
  rw [run_index_string w 9 s .i64 _ Tryz.underlying9, dif_pos (by omega)]
  have e : (lst s)[n]? = some s.data[n] := by rw [lst, Array.getElem?_toList, Array.getElem?_eq_getElem h]
  rw [List.getD_eq_getElem?_getD, e]
  rfl
theorem emp_str (s : ByteArray) : s.toList.isEmpty = (lst s).isEmpty := by rw [ByteArray.toList_eq]; rfl
theorem idx_mem (c : UInt8) : ∀ l : V.Bs, decide (Lib.indexByte l c < 0) = !l.contains c
  | [] => by simp [Lib.indexByte]
  | b :: l => by
    have ih := idx_mem c l
    have hg := Lib.indexByte_ge l c
    unfold Lib.indexByte
    by_cases h : b = c
    · subst h; simp
    · have h1 : (b == c) = false := by simp [h]
      have h2 : (b :: l).contains c = l.contains c := by simp [List.contains_cons, Ne.symm h]
      rw [h1, h2, ← ih]
      simp only [Bool.false_eq_true, if_false]
      apply decide_eq_decide.2
      by_cases h3 : Lib.indexByte l c = -1
      · simp [h3]
      · have h4 : ¬ ((Lib.indexByte l c == -1) = true) := by simp [h3]
        rw [if_neg h4]
        omega
theorem mark_any (D : ByteArray) (hD : D = str V.marks) (c : UInt8) (x : Int) (hx : x = (c.toNat : Int)) (w : World) :
    Calls Tryz.prog 90 #[.string D, .int .u8 x] w fun e w' => (∃ i : Int, e = .returned (.int .i64 i) ∧ decide (i < 0) = !V.marks.contains c) ∧ w' = w := by
  subst hD hx
  have h := Tryz.strings_IndexByte (str V.marks) (c.toNat : Int) w
  refine h.mono ?_
  rintro e w' ⟨rfl, rfl⟩
  have e1 : ((c.toNat : Int)).toNat.toUInt8 = c := by simp
  rw [e1]
  exact ⟨⟨_, rfl, idx_mem c _⟩, rfl⟩
def goodA (c : UInt8) : Bool := V.isPlain c || V.marks.contains c
theorem all_take (l : V.Bs) (p : UInt8 → Bool) (n : Nat) (hn : n < l.length) (c : UInt8) (hc : c = l.getD n 0) : (l.take (n + 1)).all p = ((l.take n).all p && p c) := by
  have e : l.take (n + 1) = l.take n ++ [c] := by
    rw [List.take_succ_eq_append_getElem hn, hc]; simp [List.getD_eq_getElem?_getD, hn]
  rw [e, List.all_append]; simp
theorem all_false (l : V.Bs) (p : UInt8 → Bool) (n : Nat) (hn : n < l.length) (c : UInt8) (hc : c = l.getD n 0) (h : p c = false) : l.all p = false := by
  rw [List.all_eq_false]
  refine ⟨l[n], List.getElem_mem hn, ?_⟩
  have : c = l[n] := by rw [hc]; simp [List.getD_eq_getElem?_getD, hn]
  rw [← this, h]; simp
set_option maxRecDepth 100000 in
set_option maxHeartbeats 1000000 in
theorem atom_any (s : ByteArray) (w : World) (hs : s.size ≤ 1000000) :
    Calls Tryz.prog 78 #[.string s] w fun e w' => e = .returned (.bool (V.atom (lst s))) ∧ w' = w := by
  obtain ⟨D, hD⟩ : ∃ D, D = str V.marks := ⟨_, rfl⟩
  have HD := Aside0.mk hD
  have hd : ({ data := #[33, 35, 36, 37, 38, 39, 42, 43, 45, 47, 61, 63, 94, 95, 96, 123, 124, 125, 126] } : ByteArray) = D := hD.symm
  clear hD
  obtain ⟨T, hT⟩ : ∃ T, T = V.atom (lst s) := ⟨_, rfl⟩
  rw [← hT]
  have HT := Aside0.mk hT
  clear hT
  go_enter Tryz.func78, Tryz.ntmps78
  go_wp2_with (fail)
  rw [hd]
  clear hd
  go_loopg [6] s.size (fun g v6 wr => ∃ n : Nat, n ≤ s.size ∧ g + n = s.size ∧ v6 = .int .i64 n ∧ wr = w ∧ Aside0 (((lst s).take n).all goodA = true))
  case atStart => exact ⟨0, by omega, by omega, rfl, rfl, ⟨by simp⟩⟩
  case round =>
    obtain ⟨n, hn, hg, rfl, rfl, H⟩ := hrel
    by_cases hlt : n < s.size
    · obtain ⟨c, hc⟩ : ∃ c, c = (lst s).getD n 0 := ⟨_, rfl⟩
      obtain ⟨x, hx⟩ : ∃ x : Int, x = (c.toNat : Int) := ⟨_, rfl⟩
      have hix := fun w => index_str s n hlt c hc x hx w
      have hstep := all_take (lst s) goodA n (by rw [lst_length]; exact hlt) c hc
      have hbad := all_false (lst s) goodA n (by rw [lst_length]; exact hlt) c hc
      have hlt' : (n : Int) < (s.size : Int) := by omega
      have h0 : (0 : Int) ≤ (n : Int) := by omega
      have HX := Aside0.mk hx
      have HS := Aside0.mk hstep
      have HB := Aside0.mk hbad
      clear hx hc hstep hbad
      cases hp : V.isPlain c with
      | true =>
        have HP := Aside0.mk hp
        go_wp2_with (first | (go_at_call 84; with_reducible refine Calls.mono (plain_any c x HX.out wr) ?_; rintro e w1 ⟨rfl, rfl⟩; rw [HP.out]))
        go_roundg (gk - 1)
        case measure => omega
        case rel => exact ⟨n + 1, by omega, by omega, by go_num, rfl, ⟨by rw [HS.out, H.out]; unfold goodA; rw [HP.out]; rfl⟩⟩
      | false =>
        have HP := Aside0.mk hp
        cases hm : V.marks.contains c with
        | true =>
          have HM := Aside0.mk hm
          go_wp2_with (first | (go_at_call 84; with_reducible refine Calls.mono (plain_any c x HX.out wr) ?_; rintro e w1 ⟨rfl, rfl⟩; rw [HP.out]) | (go_at_call 90; with_reducible refine Calls.mono (mark_any D HD.out c x HX.out _) ?_; rintro e w2 ⟨⟨i, rfl, hi⟩, rfl⟩; rw [HM.out] at hi; simp only [Bool.not_true, Bool.not_false] at hi))
          go_roundg (gk - 1)
          case measure => omega
          case rel => exact ⟨n + 1, by omega, by omega, by go_num, rfl, ⟨by rw [HS.out, H.out]; unfold goodA; rw [HM.out, HP.out]; rfl⟩⟩
        | false =>
          have HM := Aside0.mk hm
          have hT : T = false := by rw [HT.out]; unfold V.atom; rw [show (fun c => V.isPlain c || V.marks.contains c) = goodA from rfl, HB.out (by unfold goodA; rw [HM.out, HP.out]; rfl)]; simp
          have HTF := Aside0.mk hT
          clear hT
          go_wp2_with (first | (go_at_call 84; with_reducible refine Calls.mono (plain_any c x HX.out wr) ?_; rintro e w1 ⟨rfl, rfl⟩; rw [HP.out]) | (go_at_call 90; with_reducible refine Calls.mono (mark_any D HD.out c x HX.out _) ?_; rintro e w2 ⟨⟨i, rfl, hi⟩, rfl⟩; rw [HM.out] at hi; simp only [Bool.not_true, Bool.not_false] at hi))
          go_ret
          exact ⟨by rw [HTF.out]; rfl, rfl⟩
    · have hne : n = s.size := by omega
      have e : (lst s).take n = lst s := by rw [hne, ← lst_length, List.take_length]
      rw [e] at H
      have hT : T = !s.toList.isEmpty := by
        rw [HT.out]
        unfold V.atom
        rw [show (fun c => V.isPlain c || V.marks.contains c) = goodA from rfl, H.out, emp_str]
        rfl
      have t1 : decide ((n : Int) < (s.size : Int)) = false := by simp; omega
      have t2 : decide (n < s.size) = false := by simp; omega
      have HTF := Aside0.mk hT
      clear e hT hne
      go_wp2_with (fail)
      go_ret
      exact ⟨by rw [HTF.out]; rfl, rfl⟩
def goodL (c : UInt8) : Bool := V.isPlain c || c == 45
theorem byte_45 (c : UInt8) (x : Int) (hx : x = (c.toNat : Int)) : (c == 45) = decide (x = 45) := by
  subst hx
  rw [Bool.eq_iff_iff]
  simp only [beq_iff_eq, decide_eq_true_eq]
  constructor
  · rintro rfl; rfl
  · intro h
    apply UInt8.toNat_inj.1
    have : (45 : UInt8).toNat = 45 := rfl
    omega
set_option maxRecDepth 100000 in
set_option maxHeartbeats 1000000 in
theorem label_any (s : ByteArray) (w : World) (hs : s.size ≤ 1000000) :
    Calls Tryz.prog 70 #[.string s] w fun e w' => e = .returned (.bool (V.label (lst s))) ∧ w' = w := by
  obtain ⟨T, hT⟩ : ∃ T, T = V.label (lst s) := ⟨_, rfl⟩
  rw [← hT]
  have HT := Aside0.mk hT
  clear hT
  go_enter Tryz.func70, Tryz.ntmps70
  go_wp2_with (fail)
  go_loopg [6] s.size (fun g v6 wr => ∃ n : Nat, n ≤ s.size ∧ g + n = s.size ∧ v6 = .int .i64 n ∧ wr = w ∧ Aside0 (((lst s).take n).all goodL = true))
  case atStart => exact ⟨0, by omega, by omega, rfl, rfl, ⟨by simp⟩⟩
  case round =>
    obtain ⟨n, hn, hg, rfl, rfl, H⟩ := hrel
    by_cases hlt : n < s.size
    · obtain ⟨c, hc⟩ : ∃ c, c = (lst s).getD n 0 := ⟨_, rfl⟩
      obtain ⟨x, hx⟩ : ∃ x : Int, x = (c.toNat : Int) := ⟨_, rfl⟩
      have hix := fun w => index_str s n hlt c hc x hx w
      have hstep := all_take (lst s) goodL n (by rw [lst_length]; exact hlt) c hc
      have hbad := all_false (lst s) goodL n (by rw [lst_length]; exact hlt) c hc
      have hlt' : (n : Int) < (s.size : Int) := by omega
      have h0 : (0 : Int) ≤ (n : Int) := by omega
      have HX := Aside0.mk hx
      have HS := Aside0.mk hstep
      have HB := Aside0.mk hbad
      have H45 := Aside0.mk (byte_45 c x hx)
      clear hx hc hstep hbad
      cases hp : V.isPlain c with
      | true =>
        have HP := Aside0.mk hp
        go_wp2_with (first | (go_at_call 84; with_reducible refine Calls.mono (plain_any c x HX.out wr) ?_; rintro e w1 ⟨rfl, rfl⟩; rw [HP.out]))
        go_roundg (gk - 1)
        case measure => omega
        case rel => exact ⟨n + 1, by omega, by omega, by go_num, rfl, ⟨by rw [HS.out, H.out]; unfold goodL; rw [HP.out]; rfl⟩⟩
      | false =>
        have HP := Aside0.mk hp
        by_cases hm : x = 45
        · have hm1 : (c == 45) = true := by rw [H45.out]; simp [hm]
          have HM := Aside0.mk hm1
          have t5 : (x != 45) = false := by simp [hm]
          clear hm hm1
          go_wp2_with (first | (go_at_call 84; with_reducible refine Calls.mono (plain_any c x HX.out wr) ?_; rintro e w1 ⟨rfl, rfl⟩; rw [HP.out]))
          go_roundg (gk - 1)
          case measure => omega
          case rel => exact ⟨n + 1, by omega, by omega, by go_num, rfl, ⟨by rw [HS.out, H.out]; unfold goodL; rw [HM.out, HP.out]; rfl⟩⟩
        · have hm1 : (c == 45) = false := by rw [H45.out]; simp [hm]
          have hT : T = false := by rw [HT.out]; unfold V.label; rw [show (fun c => V.isPlain c || c == 45) = goodL from rfl, HB.out (by unfold goodL; rw [hm1, hp]; rfl)]; simp
          have HTF := Aside0.mk hT
          have t5 : (x != 45) = true := by simp [hm]
          clear hT hm1
          go_wp2_with (first | (go_at_call 84; with_reducible refine Calls.mono (plain_any c x HX.out wr) ?_; rintro e w1 ⟨rfl, rfl⟩; rw [HP.out]))
          go_ret
          exact ⟨by rw [HTF.out]; rfl, rfl⟩
    · have hne : n = s.size := by omega
      have e : (lst s).take n = lst s := by rw [hne, ← lst_length, List.take_length]
      rw [e] at H
      have hT : T = (!(lst s).isEmpty && decide (s.size ≤ 63) && (lst s).head? != some 45 && (lst s).getLast? != some 45) := by
        rw [HT.out]
        unfold V.label
        rw [show (fun c => V.isPlain c || c == 45) = goodL from rfl, H.out, lst_length]
        rfl
      have t1 : decide ((n : Int) < (s.size : Int)) = false := by simp; omega
      have t2 : decide (n < s.size) = false := by simp; omega
      by_cases h0 : s.size = 0
      · have hl : lst s = [] := List.eq_nil_of_length_eq_zero (by rw [lst_length]; exact h0)
        have t3 : s.toList.isEmpty = true := by rw [emp_str, hl]; rfl
        rw [hl] at hT
        have HTF := Aside0.mk hT
        clear e hT hne hl h0
        go_wp2_with (fail)
        go_ret
        exact ⟨by rw [HTF.out]; rfl, rfl⟩
      · obtain ⟨a, ha⟩ : ∃ a, a = (lst s).getD 0 0 := ⟨_, rfl⟩
        obtain ⟨z, hz⟩ : ∃ z, z = (lst s).getD (s.size - 1) 0 := ⟨_, rfl⟩
        obtain ⟨xa, hxa⟩ : ∃ x : Int, x = (a.toNat : Int) := ⟨_, rfl⟩
        obtain ⟨xz, hxz⟩ : ∃ x : Int, x = (z.toNat : Int) := ⟨_, rfl⟩
        have hi1 := fun w => index_str s 0 (by omega) a ha xa hxa w
        have hi2 : ∀ w, (Instr.index 9 (.string s) (.int .i64 ((s.size : Int) - 1))).run Tryz.prog w = .ok (.int .u8 xz) w := by
          intro w
          have := index_str s (s.size - 1) (by omega) z hz xz hxz w
          rw [show ((s.size - 1 : Nat) : Int) = (s.size : Int) - 1 by omega] at this
          exact this
        have e1 : (lst s).head? = some a := by
          rw [ha]
          cases hl : lst s with
          | nil => rw [← lst_length, hl] at h0; exact absurd rfl h0
          | cons y l => rfl
        have e2 : (lst s).getLast? = some z := by
          rw [hz, ← lst_length, List.getLast?_eq_getElem?, List.getD_eq_getElem?_getD, List.getElem?_eq_getElem (by rw [lst_length]; omega)]
          rfl
        have e3 : (lst s).isEmpty = false := by
          cases hl : lst s with
          | nil => rw [← lst_length, hl] at h0; exact absurd rfl h0
          | cons y l => rfl
        have t3 : s.toList.isEmpty = false := by rw [emp_str, e3]
        have hv : T = (decide ((s.size : Int) ≤ 63) && !decide (xa = 45) && !decide (xz = 45)) := by
          have e4 : ∀ y : UInt8, (some y != some (45 : UInt8)) = !(y == 45) := fun y => rfl
          have e5 : decide (s.size ≤ 63) = decide ((s.size : Int) ≤ 63) := decide_eq_decide.2 (by omega)
          rw [hT, e1, e2, e3, e4, e4, e5, byte_45 a xa hxa, byte_45 z xz hxz]
          rfl
        have HTF := Aside0.mk hv
        simp only [Int.natCast_zero] at hi1
        have hpos : (0 : Int) < (s.size : Int) := by omega
        clear e hT hne hv e1 e2 e3 hxa hxz ha hz h0
        go_wp2_with (fail)
        all_goals (go_ret; refine ⟨?_, rfl⟩; rw [HTF.out]; refine congrArg Ending.returned ?_; show Value.bool _ = Value.bool _; congr 1; rw [Bool.eq_iff_iff]; simp; omega)
end Go.Proofs.YteiknmcmaemcoaaGreatDoor
/- What path's parts, Domain and Check answer. -/
namespace Go.Proofs.YteiknmcmaemcoaaGreatDoor
open Go.RowKit Go.Lib
open Go.Proofs.YteiknmcmaemcoaaGreatDoorW.PrintWords
set_option linter.unusedVariables false
set_option linter.unusedSimpArgs false
/-- What the library's variables hold. -/
structure Vars (w : World) : Prop where
  low : 8 ≤ w.heap.size
  mx : ∃ m, w.cell? ⟨0, 0, none⟩ = some (.int .i64 m)
  syn : ∃ tp p, w.var? Tryz.prog "strconv.ErrSyntax" = some #[.iface tp p]
  rng : ∃ tp p, w.var? Tryz.prog "strconv.ErrRange" = some #[.iface tp p]
  pow : Lib.TabIs Tryz.prog w "internal/strconv.uint64pow10" .u64 Lib.pow10Tab
theorem var_on {P : Program} {W W' : World} {B g : Nat} {n : String} {cs : Array Value} (hg : P.globalNamed n = some g) (h : W.var? P n = some cs) (hb : Below B W W') (hB : g < B) : W'.var? P n = some cs := by
  unfold World.var? at h ⊢
  rw [hg] at h ⊢
  simp only [Option.bind_some] at h ⊢
  rw [hb.block g hB]
  exact h
theorem Vars.on {w w' : World} {B : Nat} (hv : Vars w) (hb : Below B w w') (hB : 8 ≤ B) : Vars w' where
  low := Nat.le_trans hv.low hb.size
  mx := by
    obtain ⟨m, hm⟩ := hv.mx
    exact ⟨m, (hb.cell (p := ⟨0, 0, none⟩) (by show 0 < B; omega)).trans hm⟩
  syn := by
    obtain ⟨tp, p, h⟩ := hv.syn
    exact ⟨tp, p, var_on (g := 3) (by kernel_rfl) h hb (by omega)⟩
  rng := by
    obtain ⟨tp, p, h⟩ := hv.rng
    exact ⟨tp, p, var_on (g := 4) (by kernel_rfl) h hb (by omega)⟩
  pow := var_on (g := 5) (by kernel_rfl) hv.pow hb (by omega)
theorem Vars.go {w w' : World} (hv : Vars w) (hb : Below w.heap.size w w') : Vars w' := hv.on hb hv.low
/-- Strings that are not too long. -/
abbrev Sh := {x : ByteArray // x.size ≤ 1000000}
instance : Inhabited Sh := ⟨⟨ByteArray.empty, by decide⟩⟩
theorem split_any (s : ByteArray) (c : UInt8) (w : World) (hs : s.size ≤ 1000000) (hv : Vars w) (D : ByteArray) (hD : D = str [c]) :
    Calls Tryz.prog 21 #[.string s, .string D] w fun e w' => ∃ n : Nat, n = (V.splitOn c (lst s)).length ∧ e = .returned (.slice (some ⟨w.heap.size, 0, none⟩) n n) ∧ w' = w.alloc (.cells (((V.splitOn c (lst s)).map fun l => Value.string (str l))).toArray 9) := by
  subst hD
  obtain ⟨m, hm⟩ := hv.mx
  refine (Tryz.strings_Split s (str [c]) m w (by omega) hm (by show 1 ≤ 1; omega)).mono ?_
  rintro e w' ⟨rfl, rfl⟩
  have e1 := V.split_list c s
  have e2 := V.split_len c s
  refine ⟨_, rfl, by rw [show (str [c] : ByteArray) = ⟨#[c]⟩ from rfl, e2]; rfl, ?_⟩
  rw [show (str [c] : ByteArray) = ⟨#[c]⟩ from rfl, e1, List.map_map]
  rfl
theorem splitOn_mem (c : UInt8) : ∀ (l x : V.Bs), x ∈ V.splitOn c l → x.length ≤ l.length
  | [], x, h => by simp [V.splitOn] at h; simp [h]
  | y :: l, x, h => by
    have ih := splitOn_mem c l
    unfold V.splitOn at h
    by_cases hy : y = c
    · rw [if_pos hy] at h
      rcases List.mem_cons.1 h with h | h
      · simp [h]
      · have := ih x h; simp; omega
    · rw [if_neg hy] at h
      cases hs : V.splitOn c l with
      | nil => rw [hs] at h; simp at h; simp [h]
      | cons a t =>
        rw [hs] at h
        simp only [List.mem_cons] at h
        rcases h with h | h
        · have := ih a (by rw [hs]; simp); rw [h]; simp; omega
        · have := ih x (by rw [hs]; simp [h]); simp; omega
/-- The parts as strings that are not too long. -/
def pieces (c : UInt8) (s : ByteArray) (hs : s.size ≤ 1000000) : List Sh := (V.splitOn c (lst s)).attach.map fun x => ⟨str x.1, by rw [str_size]; have := splitOn_mem c _ _ x.2; rw [lst_length] at this; omega⟩
theorem pieces_length (c : UInt8) (s : ByteArray) (hs : s.size ≤ 1000000) : (pieces c s hs).length = (V.splitOn c (lst s)).length := by simp [pieces]
theorem pieces_val (c : UInt8) (s : ByteArray) (hs : s.size ≤ 1000000) : (pieces c s hs).map (fun x => Value.string x.1) = (V.splitOn c (lst s)).map fun l => Value.string (str l) := by
  unfold pieces
  rw [List.map_map]
  have e : ((fun x : Sh => Value.string x.1) ∘ fun x : {x // x ∈ V.splitOn c (lst s)} => (⟨str x.1, by rw [str_size]; have := splitOn_mem c _ _ x.2; rw [lst_length] at this; omega⟩ : Sh)) = (fun l => Value.string (str l)) ∘ (fun x : {x // x ∈ V.splitOn c (lst s)} => x.1) := rfl
  rw [e, ← List.map_map, List.attach_map_subtype_val]
theorem pieces_any (c : UInt8) (s : ByteArray) (hs : s.size ≤ 1000000) (p : V.Bs → Bool) : (pieces c s hs).any (fun x => !p (lst x.1)) = !(V.splitOn c (lst s)).all p := by
  have e : (pieces c s hs).any (fun x => !p (lst x.1)) = ((V.splitOn c (lst s)).attach.map (fun x => x.1)).any (fun l => !p l) := by
    unfold pieces
    rw [List.any_map, List.any_map]
    congr 1
  rw [e]
  rw [List.attach_map_subtype_val]
  rw [List.not_all_eq_any_not]
theorem cells_of_pieces (c : UInt8) (s : ByteArray) (hs : s.size ≤ 1000000) (w W : World) (b : Nat) (hb : W.heap[b]? = some (.cells (((V.splitOn c (lst s)).map fun l => Value.string (str l))).toArray 9)) : ∀ j, j < (pieces c s hs).length → W.cell? ⟨b, 0 + j, none⟩ = some (.string ((pieces c s hs)[j]!).1) := by
  intro j hj
  rw [Nat.zero_add, cell_of_row W b _ _ _ _ hb]
  rw [List.getElem?_toArray, ← pieces_val c s hs, List.getElem?_map, List.getElem?_eq_getElem hj]
  simp [hj]
theorem alloc_two (w : World) (o p : Obj) : ((w.alloc o).alloc p).heap[w.heap.size + 1]? = some p := by
  have e : (w.alloc o).heap.size = w.heap.size + 1 := by simp
  rw [← e]
  exact heap_alloc_new _ _
theorem splitOn_length (c : UInt8) : ∀ l : V.Bs, (V.splitOn c l).length ≤ l.length + 1
  | [] => by simp [V.splitOn]
  | y :: l => by
    have ih := splitOn_length c l
    unfold V.splitOn
    split
    · simp; omega
    · split
      · simp
      · rename_i h; rw [h] at ih; simp at ih ⊢; omega
theorem pred_atom (B : Nat) (w : World) (hB : B < w.heap.size) (hcell : w.cell? ⟨B, 0, none⟩ = some (.func (.func 78) #[] #[])) :
    PredAt Tryz.prog 83 #[.pointer (some ⟨B, 0, none⟩)] (fun x : Sh => Value.string x.1) (fun x => !V.atom (lst x.1)) w := fun W x hb => by
  have hc : W.cell? ⟨B, 0, none⟩ = some (.func (.func 78) #[] #[]) := (hb.cell (p := ⟨B, 0, none⟩) hB).trans hcell
  show Calls Tryz.prog 83 #[.string x.1, .pointer (some ⟨B, 0, none⟩)] W _
  obtain ⟨X, hX⟩ := x
  simp only
  go_enter Tryz.func83, Tryz.ntmps83
  go_wp2_with (first | (go_at_call 78; with_reducible refine Calls.mono (atom_any X W hX) ?_; rintro e w1 ⟨rfl, rfl⟩))
  go_ret
  exact ⟨rfl, 0, rfl⟩
set_option maxHeartbeats 1000000 in
theorem parts_atom (s : ByteArray) (most : Int) (hm0 : 0 ≤ most) (hm1 : most ≤ 100000) (w : World) (hs : s.size ≤ 1000000) (hv : Vars w) :
    Calls Tryz.prog 69 #[.string s, .int .i64 most, .func (.func 78) #[] #[]] w fun e w' => e = .returned (.bool (V.parts (lst s) most.toNat V.atom)) ∧ Below w.heap.size w w' := by
  obtain ⟨T, hT⟩ : ∃ T, T = V.parts (lst s) most.toNat V.atom := ⟨_, rfl⟩
  rw [← hT]
  have hT2 : T = (decide ((s.size : Int) ≤ most) && (V.splitOn 46 (lst s)).all V.atom) := by
    rw [hT]
    unfold V.parts
    congr 1
    rw [lst_length]
    exact decide_eq_decide.2 (by omega)
  have HT := Aside0.mk hT2
  clear hT hT2
  have HV := Aside0.mk hv
  clear hv
  go_enter Tryz.func69, Tryz.ntmps69
  by_cases hlen : (s.size : Int) ≤ most
  · have hT : T = !(pieces 46 s hs).any (fun x => !V.atom (lst x.1)) := by rw [HT.out, pieces_any, Bool.not_not, decide_eq_true hlen, Bool.true_and]
    have HTF := Aside0.mk hT
    clear hT
    have eg : ∀ args w, (callFunc 83 args).run Tryz.prog w = .ok (.enter 83 args) w := enters_of Tryz.func83 (by kernel_rfl) rfl
    have hcon : ∀ (w1 : World) (n : Nat), n = (V.splitOn 46 (lst s)).length → w1 = (w.alloc (.cells #[.func (.func 78) #[] #[]] 55)).alloc (.cells (((V.splitOn 46 (lst s)).map fun l => Value.string (str l))).toArray 9) →
        Calls Tryz.prog 82 #[.slice (some ⟨w.heap.size + 1, 0, none⟩) n n, .func (.func 83) #[] #[.pointer (some ⟨w.heap.size, 0, none⟩)]] w1 fun e w' => e = .returned (.bool ((pieces 46 s hs).any (fun x => !V.atom (lst x.1)))) ∧ ∃ q, w' = w1.drewN q := by
      intro w1 n hn hw1
      have hc := Tryz.slices_ContainsFunc (fun x : Sh => Value.string x.1) (fun x => !V.atom (lst x.1)) 83 #[.pointer (some ⟨w.heap.size, 0, none⟩)] eg (w.heap.size + 1) 0 n n (pieces 46 s hs) w1
        (pred_atom w.heap.size w1 (by rw [hw1]; simp; omega) (by rw [hw1]; simp)) (by rw [pieces_length]; omega) (by rw [hn]; have := splitOn_length 46 (lst s); rw [lst_length] at this; omega) (cells_of_pieces 46 s hs w w1 _ (by rw [hw1]; exact alloc_two _ _ _))
      rw [List.take_of_length_le (by rw [pieces_length]; omega)] at hc
      exact hc
    have HC := Aside0.mk hcon
    have HVA := Aside0.mk (HV.out.go ((Below.refl _ w).alloc (Nat.le_refl _) (.cells #[.func (.func 78) #[] #[]] 55)))
    clear hcon eg
    go_wp2_with (first | (go_at_call 21; with_reducible refine Calls.mono (split_any s 46 _ hs HVA.out _ rfl) ?_; rintro e w1 ⟨n, hn, rfl, hw1⟩; have HN := Aside0.mk hn; have HW := Aside0.mk hw1; clear hn hw1) | (go_at_call 82; with_reducible refine Calls.mono (HC.out w1 n HN.out HW.out) ?_; rintro e w2 ⟨rfl, q, rfl⟩))
    go_ret
    refine ⟨by rw [HTF.out]; rfl, ?_⟩
    rw [HW.out]
    exact below_drewN' (((Below.refl _ w).alloc (Nat.le_refl _) _).alloc (by simp) _) q
  · have hT : T = false := by rw [HT.out, decide_eq_false hlen]; rfl
    have HTF := Aside0.mk hT
    clear hT
    have t1 : decide ((s.size : Int) ≤ most) = false := decide_eq_false hlen
    go_wp2_with (fail)
    go_ret
    exact ⟨by rw [HTF.out]; rfl, (Below.refl _ _).alloc (Nat.le_refl _) _⟩
theorem pred_label (B : Nat) (w : World) (hB : B < w.heap.size) (hcell : w.cell? ⟨B, 0, none⟩ = some (.func (.func 70) #[] #[])) :
    PredAt Tryz.prog 83 #[.pointer (some ⟨B, 0, none⟩)] (fun x : Sh => Value.string x.1) (fun x => !V.label (lst x.1)) w := fun W x hb => by
  have hc : W.cell? ⟨B, 0, none⟩ = some (.func (.func 70) #[] #[]) := (hb.cell (p := ⟨B, 0, none⟩) hB).trans hcell
  show Calls Tryz.prog 83 #[.string x.1, .pointer (some ⟨B, 0, none⟩)] W _
  obtain ⟨X, hX⟩ := x
  simp only
  go_enter Tryz.func83, Tryz.ntmps83
  go_wp2_with (first | (go_at_call 70; with_reducible refine Calls.mono (label_any X W hX) ?_; rintro e w1 ⟨rfl, rfl⟩))
  go_ret
  exact ⟨rfl, 0, rfl⟩
set_option maxHeartbeats 1000000 in
theorem parts_label (s : ByteArray) (most : Int) (hm0 : 0 ≤ most) (hm1 : most ≤ 100000) (w : World) (hs : s.size ≤ 1000000) (hv : Vars w) :
    Calls Tryz.prog 69 #[.string s, .int .i64 most, .func (.func 70) #[] #[]] w fun e w' => e = .returned (.bool (V.parts (lst s) most.toNat V.label)) ∧ Below w.heap.size w w' := by
  obtain ⟨T, hT⟩ : ∃ T, T = V.parts (lst s) most.toNat V.label := ⟨_, rfl⟩
  rw [← hT]
  have hT2 : T = (decide ((s.size : Int) ≤ most) && (V.splitOn 46 (lst s)).all V.label) := by
    rw [hT]
    unfold V.parts
    congr 1
    rw [lst_length]
    exact decide_eq_decide.2 (by omega)
  have HT := Aside0.mk hT2
  clear hT hT2
  have HV := Aside0.mk hv
  clear hv
  go_enter Tryz.func69, Tryz.ntmps69
  by_cases hlen : (s.size : Int) ≤ most
  · have hT : T = !(pieces 46 s hs).any (fun x => !V.label (lst x.1)) := by rw [HT.out, pieces_any, Bool.not_not, decide_eq_true hlen, Bool.true_and]
    have HTF := Aside0.mk hT
    clear hT
    have eg : ∀ args w, (callFunc 83 args).run Tryz.prog w = .ok (.enter 83 args) w := enters_of Tryz.func83 (by kernel_rfl) rfl
    have hcon : ∀ (w1 : World) (n : Nat), n = (V.splitOn 46 (lst s)).length → w1 = (w.alloc (.cells #[.func (.func 70) #[] #[]] 55)).alloc (.cells (((V.splitOn 46 (lst s)).map fun l => Value.string (str l))).toArray 9) →
        Calls Tryz.prog 82 #[.slice (some ⟨w.heap.size + 1, 0, none⟩) n n, .func (.func 83) #[] #[.pointer (some ⟨w.heap.size, 0, none⟩)]] w1 fun e w' => e = .returned (.bool ((pieces 46 s hs).any (fun x => !V.label (lst x.1)))) ∧ ∃ q, w' = w1.drewN q := by
      intro w1 n hn hw1
      have hc := Tryz.slices_ContainsFunc (fun x : Sh => Value.string x.1) (fun x => !V.label (lst x.1)) 83 #[.pointer (some ⟨w.heap.size, 0, none⟩)] eg (w.heap.size + 1) 0 n n (pieces 46 s hs) w1
        (pred_label w.heap.size w1 (by rw [hw1]; simp; omega) (by rw [hw1]; simp)) (by rw [pieces_length]; omega) (by rw [hn]; have := splitOn_length 46 (lst s); rw [lst_length] at this; omega) (cells_of_pieces 46 s hs w w1 _ (by rw [hw1]; exact alloc_two _ _ _))
      rw [List.take_of_length_le (by rw [pieces_length]; omega)] at hc
      exact hc
    have HC := Aside0.mk hcon
    have HVA := Aside0.mk (HV.out.go ((Below.refl _ w).alloc (Nat.le_refl _) (.cells #[.func (.func 70) #[] #[]] 55)))
    clear hcon eg
    go_wp2_with (first | (go_at_call 21; with_reducible refine Calls.mono (split_any s 46 _ hs HVA.out _ rfl) ?_; rintro e w1 ⟨n, hn, rfl, hw1⟩; have HN := Aside0.mk hn; have HW := Aside0.mk hw1; clear hn hw1) | (go_at_call 82; with_reducible refine Calls.mono (HC.out w1 n HN.out HW.out) ?_; rintro e w2 ⟨rfl, q, rfl⟩))
    go_ret
    refine ⟨by rw [HTF.out]; rfl, ?_⟩
    rw [HW.out]
    exact below_drewN' (((Below.refl _ w).alloc (Nat.le_refl _) _).alloc (by simp) _) q
  · have hT : T = false := by rw [HT.out, decide_eq_false hlen]; rfl
    have HTF := Aside0.mk hT
    clear hT
    have t1 : decide ((s.size : Int) ≤ most) = false := decide_eq_false hlen
    go_wp2_with (fail)
    go_ret
    exact ⟨by rw [HTF.out]; rfl, (Below.refl _ _).alloc (Nat.le_refl _) _⟩
end Go.Proofs.YteiknmcmaemcoaaGreatDoor
/- What path's Domain, Check and Text answer. -/
namespace Go.Proofs.YteiknmcmaemcoaaGreatDoor
open Go.RowKit Go.Lib
open Go.Proofs.YteiknmcmaemcoaaGreatDoorW.PrintWords
set_option linter.unusedVariables false
set_option linter.unusedSimpArgs false
theorem domain_any (s : ByteArray) (w : World) (hs : s.size ≤ 1000000) (hv : Vars w) :
    Calls Tryz.prog 56 #[.string s] w fun e w' => e = .returned (.bool (V.domain (lst s))) ∧ Below w.heap.size w w' := by
  have HV := Aside0.mk hv
  clear hv
  go_enter Tryz.func56, Tryz.ntmps56
  go_wp2_with (first | (go_at_call 69; with_reducible refine Calls.mono (parts_label s 255 (by decide) (by decide) _ hs HV.out) ?_; rintro e w1 ⟨rfl, h⟩; have H := Aside0.mk h; clear h))
  go_ret
  exact ⟨rfl, H.out⟩
theorem cat_run (a b c : ByteArray) (hc : c = a ++ b) (ha : a.size ≤ 1000000) (hb : b.size ≤ 1000000) (w : World) : (Op.stringOp .add a b).run Tryz.prog w = .ok (.string c) w := by
  rw [hc]; exact run_string_add_sum w a b (by omega)
theorem lst_append (a b : ByteArray) : lst (a ++ b) = lst a ++ lst b := by simp [lst, ByteArray.data_append]
theorem str_append (a b : V.Bs) : str (a ++ b) = str a ++ str b := by rw [← str_lst (str a ++ str b), lst_append, lst_str, lst_str]
theorem lst_nil (s : ByteArray) : (lst s).isEmpty = decide (s.size = 0) := by
  rw [← lst_length]
  cases lst s <;> simp
def pv (n : Bool) (a b : ByteArray) : Value := .agg #[.bool n, .string a, .string b]
def errOf (b : Bool) : Int := if b then 0 else 5
set_option maxRecDepth 100000 in
set_option maxHeartbeats 1000000 in
theorem check_any (n : Bool) (a b : ByteArray) (w : World) (ha : a.size ≤ 100000) (hb : b.size ≤ 100000) (hv : Vars w) :
    Calls Tryz.prog 61 #[.agg #[.bool n, .string a, .string b]] w fun e w' => e = .returned (.int .i64 (errOf (V.check ⟨n, lst a, lst b⟩))) ∧ Below w.heap.size w w' := by
  obtain ⟨T, hT⟩ : ∃ T, T = V.check ⟨n, lst a, lst b⟩ := ⟨_, rfl⟩
  rw [← hT]
  have HT := Aside0.mk hT
  clear hT
  obtain ⟨C, hC⟩ : ∃ C, C = a ++ b := ⟨_, rfl⟩
  have hcat := cat_run a b C hC (by omega) (by omega)
  have hce : C.toList.isEmpty = ((lst a).isEmpty && (lst b).isEmpty) := by
    rw [emp_str, hC, lst_append]
    cases lst a <;> simp
  clear hC
  have HV := Aside0.mk hv
  clear hv
  go_enter Tryz.func61, Tryz.ntmps61
  cases n with
  | true =>
    have hT : T = ((lst a).isEmpty && (lst b).isEmpty) := by rw [HT.out]; simp [V.check]
    rw [← hT] at hce
    have HTF := Aside0.mk hT
    clear hT
    cases T with
    | true =>
      go_wp2_with (fail)
      go_ret
      exact ⟨rfl, (Below.refl _ _).alloc (Nat.le_refl _) _⟩
    | false =>
      go_wp2_with (fail)
      go_ret
      exact ⟨rfl, (Below.refl _ _).alloc (Nat.le_refl _) _⟩
  | false =>
    have hT : T = (V.parts (lst a) (64 : Int).toNat V.atom && V.domain (lst b)) := by rw [HT.out]; simp [V.check, V.localOk]
    clear hce
    have HVA := Aside0.mk (HV.out.go ((Below.refl _ w).alloc (Nat.le_refl _) (.cells #[.bool false, .string a, .string b] 23)))
    cases h1 : V.parts (lst a) (64 : Int).toNat V.atom with
    | false =>
      have hT2 : T = false := by rw [hT, h1]; rfl
      have HTF := Aside0.mk hT2
      have H1 := Aside0.mk h1
      clear hT hT2
      go_wp2_with (first | (go_at_call 69; with_reducible refine Calls.mono (parts_atom a 64 (by decide) (by decide) _ (by omega) HVA.out) ?_; rintro e w1 ⟨rfl, h⟩; have H := Aside0.mk h; clear h; rw [H1.out]))
      go_ret
      exact ⟨by rw [HTF.out]; rfl, ((Below.refl _ w).alloc (Nat.le_refl _) _).trans (H.out.mono (by simp))⟩
    | true =>
      have hT2 : T = V.domain (lst b) := by rw [hT, h1]; rfl
      have H1 := Aside0.mk h1
      clear hT
      cases h2 : V.domain (lst b) with
      | false =>
        have HTF := Aside0.mk (hT2.trans h2)
        have H2 := Aside0.mk h2
        clear hT2
        go_wp2_with (first | (go_at_call 69; with_reducible refine Calls.mono (parts_atom a 64 (by decide) (by decide) _ (by omega) HVA.out) ?_; rintro e w1 ⟨rfl, h⟩; have H := Aside0.mk h; have hc2 : w1.cell? ⟨w.heap.size, 2, none⟩ = some (.string b) := (h.cell (p := ⟨w.heap.size, 2, none⟩) (by simp)).trans (by simp); clear h; rw [H1.out]) | (go_at_call 56; with_reducible refine Calls.mono (domain_any b _ (by omega) (HVA.out.go H.out)) ?_; rintro e w2 ⟨rfl, h⟩; have H3 := Aside0.mk h; clear h; rw [H2.out]))
        go_ret
        exact ⟨by rw [HTF.out]; rfl, (((Below.refl _ w).alloc (Nat.le_refl _) _).trans (H.out.mono (by simp))).trans (H3.out.mono (Nat.le_trans (by simp) H.out.size))⟩
      | true =>
        have HTF := Aside0.mk (hT2.trans h2)
        have H2 := Aside0.mk h2
        clear hT2
        go_wp2_with (first | (go_at_call 69; with_reducible refine Calls.mono (parts_atom a 64 (by decide) (by decide) _ (by omega) HVA.out) ?_; rintro e w1 ⟨rfl, h⟩; have H := Aside0.mk h; have hc2 : w1.cell? ⟨w.heap.size, 2, none⟩ = some (.string b) := (h.cell (p := ⟨w.heap.size, 2, none⟩) (by simp)).trans (by simp); clear h; rw [H1.out]) | (go_at_call 56; with_reducible refine Calls.mono (domain_any b _ (by omega) (HVA.out.go H.out)) ?_; rintro e w2 ⟨rfl, h⟩; have H3 := Aside0.mk h; clear h; rw [H2.out]))
        go_ret
        exact ⟨by rw [HTF.out]; rfl, (((Below.refl _ w).alloc (Nat.le_refl _) _).trans (H.out.mono (by simp))).trans (H3.out.mono (Nat.le_trans (by simp) H.out.size))⟩
def textB (n : Bool) (a b : ByteArray) : ByteArray := match V.ptext ⟨n, lst a, lst b⟩ with | some l => str l | none => ByteArray.empty
set_option maxRecDepth 100000 in
set_option maxHeartbeats 1000000 in
theorem ptext_any (n : Bool) (a b : ByteArray) (w : World) (ha : a.size ≤ 100000) (hb : b.size ≤ 100000) (hv : Vars w) :
    Calls Tryz.prog 49 #[.agg #[.bool n, .string a, .string b]] w fun e w' => e = .returned (.tuple #[.string (textB n a b), .int .i64 (errOf (V.check ⟨n, lst a, lst b⟩))]) ∧ Below w.heap.size w w' := by
  obtain ⟨T, hT⟩ : ∃ T, T = V.check ⟨n, lst a, lst b⟩ := ⟨_, rfl⟩
  obtain ⟨X, hX⟩ : ∃ X, X = textB n a b := ⟨_, rfl⟩
  rw [← hT, ← hX]
  unfold textB V.ptext at hX
  rw [← hT] at hX
  have HT := Aside0.mk hT
  clear hT
  have HVA := Aside0.mk (hv.go ((Below.refl _ w).alloc (Nat.le_refl _) (.cells #[.bool n, .string a, .string b] 23)))
  clear hv
  obtain ⟨C1, hC1⟩ : ∃ C, C = (⟨#[60]⟩ : ByteArray) ++ a := ⟨_, rfl⟩
  obtain ⟨C2, hC2⟩ : ∃ C, C = C1 ++ (⟨#[64]⟩ : ByteArray) := ⟨_, rfl⟩
  obtain ⟨C3, hC3⟩ : ∃ C, C = C2 ++ b := ⟨_, rfl⟩
  obtain ⟨C4, hC4⟩ : ∃ C, C = C3 ++ (⟨#[62]⟩ : ByteArray) := ⟨_, rfl⟩
  have s1 : C1.size = 1 + a.size := by rw [hC1, ByteArray.size_append]; rfl
  have s2 : C2.size = C1.size + 1 := by rw [hC2, ByteArray.size_append]; rfl
  have s3 : C3.size = C2.size + b.size := by rw [hC3, ByteArray.size_append]
  have hcat1 := cat_run _ _ C1 hC1 (by decide) (by omega)
  have hcat2 := cat_run _ _ C2 hC2 (by omega) (by decide)
  have hcat3 := cat_run _ _ C3 hC3 (by omega) (by omega)
  have hcat4 := cat_run _ _ C4 hC4 (by omega) (by decide)
  have hC : C4 = str (60 :: lst a ++ 64 :: lst b ++ [62]) := by
    rw [← str_lst C4, hC4, hC3, hC2, hC1]
    simp only [lst_append]
    congr 1
    simp [lst]
  have HCC := Aside0.mk hC
  clear hC1 hC2 hC3 hC4 s1 s2 s3 hC
  go_enter Tryz.func49, Tryz.ntmps49
  cases T with
  | false =>
    simp only [Bool.false_eq_true, if_false] at hX
    have HX := Aside0.mk hX
    clear hX
    go_wp2_with (first | (go_at_call 61; with_reducible refine Calls.mono (check_any n a b _ ha hb HVA.out) ?_; rintro e w1 ⟨rfl, h⟩; have H := Aside0.mk h; clear h; rw [← HT.out]; simp only [errOf, Bool.false_eq_true, if_false]))
    go_ret2
    exact ⟨by rw [HX.out]; rfl, ((Below.refl _ w).alloc (Nat.le_refl _) _).trans (H.out.mono (by simp))⟩
  | true =>
    simp only [if_true] at hX
    cases n with
    | true =>
      simp only [if_true] at hX
      have HX := Aside0.mk hX
      clear hX
      go_wp2_with (first | (go_at_call 61; with_reducible refine Calls.mono (check_any true a b _ ha hb HVA.out) ?_; rintro e w1 ⟨rfl, h⟩; have H := Aside0.mk h; have hc0 : w1.cell? ⟨w.heap.size, 0, none⟩ = some (.bool true) := (h.cell (p := ⟨w.heap.size, 0, none⟩) (by simp)).trans (by simp); clear h; rw [← HT.out]; simp only [errOf, if_true]))
      go_ret2
      exact ⟨by rw [HX.out]; rfl, ((Below.refl _ w).alloc (Nat.le_refl _) _).trans (H.out.mono (by simp))⟩
    | false =>
      simp only [Bool.false_eq_true, if_false] at hX
      have HX := Aside0.mk hX
      clear hX
      go_wp2_with (first | (go_at_call 61; with_reducible refine Calls.mono (check_any false a b _ ha hb HVA.out) ?_; rintro e w1 ⟨rfl, h⟩; have H := Aside0.mk h; have hc0 : w1.cell? ⟨w.heap.size, 0, none⟩ = some (.bool false) := (h.cell (p := ⟨w.heap.size, 0, none⟩) (by simp)).trans (by simp); have hc1 : w1.cell? ⟨w.heap.size, 1, none⟩ = some (.string a) := (h.cell (p := ⟨w.heap.size, 1, none⟩) (by simp)).trans (by simp); have hc2 : w1.cell? ⟨w.heap.size, 2, none⟩ = some (.string b) := (h.cell (p := ⟨w.heap.size, 2, none⟩) (by simp)).trans (by simp); clear h; rw [← HT.out]; simp only [errOf, if_true]))
      go_ret2
      exact ⟨by rw [HX.out, ← HCC.out]; rfl, ((Below.refl _ w).alloc (Nat.le_refl _) _).trans (H.out.mono (by simp))⟩
end Go.Proofs.YteiknmcmaemcoaaGreatDoor
/- What path's Parse answers. -/
namespace Go.Proofs.YteiknmcmaemcoaaGreatDoor
open Go.RowKit Go.Lib
open Go.Proofs.YteiknmcmaemcoaaGreatDoorW.PrintWords
set_option linter.unusedVariables false
set_option linter.unusedSimpArgs false
theorem results_ct {P : Program} {fn : Func} {p u : Tmp} {ty : TypeId} (h : fn.results = #[.cell p ty, .tmp u]) (tmps : Array Value) (w : World) (g : Nat) (t : TypeId) (cs : Array Value) (fr : Nat × Nat) (d : TypeDesc)
    (hp : tmps.getD p undef = .pointer (some ⟨g, 0, none⟩)) (hg : w.heap[g]? = some (.cells cs t fr))
    (hu : P.underlying ty = some d) (hd : (match d with | .struct _ | .array _ _ => true | _ => false) = true) (hi : (P.info? ty).map (·.size) = some cs.size) (v : Value) (hv : tmps.getD u undef = v) :
    (results fn tmps).run P w = .ok (.tuple #[.agg cs, v]) w := by
  subst hv
  rw [results_cell_tmp h]
  have hp' : tmps[p]?.getD undef = .pointer (some ⟨g, 0, none⟩) := by simpa using hp
  simp [hp', asAddr, run_loadVar_row w g t ty cs fr d hg hu hd hi, Result.andThen]
/-- A block of three cells behind three stores. -/
theorem row3 {w : World} {g t : Nat} {fr : Nat × Nat} {x y z a b c : Value} (h : w.heap[g]? = some (.cells #[x, y, z] t fr)) : (((w.setCell ⟨g, 0, none⟩ a).setCell ⟨g, 1, none⟩ b).setCell ⟨g, 2, none⟩ c).heap[g]? = some (.cells #[a, b, c] t fr) := by
  have h1 := setCell_row _ g 0 _ _ _ a h
  have h2 := setCell_row _ g 1 _ _ _ b h1
  have h3 := setCell_row _ g 2 _ _ _ c h2
  exact h3
theorem unfroz {w : World} {g : Nat} {cs : Array Value} {t : TypeId} (h : w.heap[g]? = some (.cells cs t (0, 0))) (i : Nat) : w.frozen? ⟨g, i, none⟩ = false := by simp [World.frozen?, h]
theorem cells3 {w : World} {g t : Nat} {x y z : Value} (h : w.heap[g]? = some (.cells #[x, y, z] t (0, 0))) : w.cell? ⟨g, 0, none⟩ = some x ∧ w.cell? ⟨g, 1, none⟩ = some y ∧ w.cell? ⟨g, 2, none⟩ = some z ∧ w.frozen? ⟨g, 0, none⟩ = false ∧ w.frozen? ⟨g, 1, none⟩ = false ∧ w.frozen? ⟨g, 2, none⟩ = false := by
  refine ⟨?_, ?_, ?_, unfroz h _, unfroz h _, unfroz h _⟩
  · rw [cell_of_row w g _ _ _ _ h]; rfl
  · rw [cell_of_row w g _ _ _ _ h]; rfl
  · rw [cell_of_row w g _ _ _ _ h]; rfl
def pval (p : V.Path) : Value := .agg #[.bool p.null, .string (str p.loc), .string (str p.dom)]
def pres (o : Option V.Path) : Value := .tuple #[pval (o.getD V.noPath), .int .i64 (errOf o.isSome)]
set_option maxRecDepth 100000 in
set_option maxHeartbeats 1000000 in
theorem pparse_any (s : ByteArray) (w : World) (hs : s.size ≤ 100000) (hv : Vars w) :
    Calls Tryz.prog 57 #[.string s] w fun e w' => e = .returned (pres (V.pparse (lst s))) ∧ Below w.heap.size w w' := by
  obtain ⟨T, hT⟩ : ∃ T, T = pres (V.pparse (lst s)) := ⟨_, rfl⟩
  rw [← hT]
  have HT := Aside0.mk hT
  clear hT
  obtain ⟨N, hN⟩ : ∃ N : ByteArray, N = ⟨#[60, 62]⟩ := ⟨_, rfl⟩
  have HV := Aside0.mk hv
  clear hv
  go_enter Tryz.func57, Tryz.ntmps57
  by_cases hs0 : s = ⟨#[60, 62]⟩
  · have hT : T = .tuple #[.agg #[.bool true, .string ByteArray.empty, .string ByteArray.empty], .int .i64 0] := by
      rw [HT.out, hs0]; rfl
    have HTF := Aside0.mk hT
    clear hT
    subst hs0
    go_wp2_with (fail)
    refine bodyPost_ret (v := T) ?_ rfl ⟨rfl, (Below.refl _ _).alloc (Nat.le_refl _) _⟩
    rw [HTF.out]
    exact results_ct (by rfl) _ _ w.heap.size 23 _ (0, 0) _ rfl (heap_alloc_new _ _) Tryz.underlying23 rfl (by kernel_rfl) _ rfl
  · have t0 : (s.toList == [60, 62]) = false := by
      rw [ByteArray.toList_eq]
      simp only [beq_eq_false_iff_ne, ne_eq]
      intro h
      exact hs0 (by rw [← str_lst s, lst, h]; rfl)
    obtain ⟨m, hm⟩ := HV.out.mx
    obtain ⟨b1, hb1⟩ : ∃ b, b = decide ((lst s).head? = some 60) := ⟨_, rfl⟩
    obtain ⟨l1, hl1⟩ : ∃ l, l = if (lst s).head? = some 60 then (lst s).tail else lst s := ⟨_, rfl⟩
    obtain ⟨b2, hb2⟩ : ∃ b, b = decide (l1.getLast? = some 62) := ⟨_, rfl⟩
    obtain ⟨l2, hl2⟩ : ∃ l, l = if l1.getLast? = some 62 then l1.dropLast else l1 := ⟨_, rfl⟩
    obtain ⟨la, lb, b3, hcut⟩ : ∃ la lb b3, Lib.cut l2 [64] = (la, lb, b3) := ⟨_, _, _, rfl⟩
    have hle1 : l1.length ≤ 100000 := by have := lst_length s; rw [hl1]; split <;> simp <;> omega
    have hle2 : l2.length ≤ 100000 := by rw [hl2]; split
                                         · simp; omega
                                         · omega
    have hcc := V.cut_one 64 l2
    rw [hcut] at hcc
    have hab : la.length ≤ 100000 ∧ lb.length ≤ 100000 := by
      cases hx : V.cutAt 64 l2 with
      | none => rw [hx] at hcc; simp at hcc; obtain ⟨rfl, rfl, _⟩ := hcc; exact ⟨hle2, by simp⟩
      | some ab =>
        obtain ⟨a, b⟩ := ab
        rw [hx] at hcc; simp at hcc
        obtain ⟨rfl, rfl, _⟩ := hcc
        obtain ⟨h1, _⟩ := V.cutAt_some hx
        have := congrArg List.length h1
        simp at this
        omega
    have hT : T = pres (if b1 && b2 && b3 && V.check ⟨false, la, lb⟩ then some ⟨false, la, lb⟩ else none) := by
      rw [HT.out]
      congr 1
      unfold V.pparse
      rw [if_neg (by intro h; exact hs0 (by rw [← str_lst s, h]; rfl))]
      by_cases h1 : (lst s).head? = some 60
      · rw [if_pos h1] at hl1
        subst hl1
        by_cases h2 : (lst s).tail.getLast? = some 62
        · rw [if_pos h2] at hl2
          subst hl2
          rw [if_pos ⟨h1, h2⟩, hb1, hb2, decide_eq_true h1, decide_eq_true h2]
          cases hx : V.cutAt 64 (lst s).tail.dropLast with
          | none => rw [hx] at hcc; simp at hcc; obtain ⟨_, _, rfl⟩ := hcc; simp
          | some ab =>
            obtain ⟨a, b⟩ := ab
            rw [hx] at hcc; simp at hcc
            obtain ⟨rfl, rfl, rfl⟩ := hcc
            simp
        · rw [if_neg (fun h => h2 h.2), hb2, decide_eq_false h2]; simp
      · rw [if_neg (fun h => h1 h.1), hb1, decide_eq_false h1]; simp
    have hp1 : ∀ w, Calls Tryz.prog 71 #[.string s, .string ⟨#[60]⟩] w fun e w' => e = .returned (.tuple #[.string (str l1), .bool b1]) ∧ w = w' := by
      intro w
      refine (Tryz.strings_CutPrefix s ⟨#[60]⟩ w).mono ?_
      rintro e w' ⟨rfl, rfl⟩
      have e1 := V.trimPrefix_one 60 (lst s)
      have e2 := V.hasPrefix_one 60 (lst s)
      rw [← hl1] at e1
      rw [← hb1] at e2
      exact ⟨by rw [← e1, ← e2]; rfl, rfl⟩
    have hp2 : ∀ w, Calls Tryz.prog 72 #[.string (str l1), .string ⟨#[62]⟩] w fun e w' => e = .returned (.tuple #[.string (str l2), .bool b2]) ∧ w = w' := by
      intro w
      refine (Tryz.strings_CutSuffix (str l1) ⟨#[62]⟩ w (by rw [str_size]; omega)).mono ?_
      rintro e w' ⟨rfl, rfl⟩
      have e1 := V.trimSuffix_one 62 l1
      have e2 := V.hasSuffix_one 62 l1
      rw [← hl2] at e1
      rw [← hb2] at e2
      exact ⟨by rw [← e1, ← e2]; rfl, rfl⟩
    have hp3 : ∀ w, w.cell? ⟨0, 0, none⟩ = some (.int .i64 m) → Calls Tryz.prog 18 #[.string (str l2), .string ⟨#[64]⟩] w fun e w' => e = .returned (.tuple #[.string (str la), .string (str lb), .bool b3]) ∧ ∃ n, w' = w.drewN n := by
      intro w hm
      refine (Tryz.strings_Cut (str l2) ⟨#[64]⟩ m w (by rw [str_size]; omega) hm).mono ?_
      rintro e w' ⟨rfl, h⟩
      refine ⟨?_, h⟩
      have e0 : (str l2).data.toList = l2 := lst_str l2
      have e1 : (⟨#[64]⟩ : ByteArray).data.toList = [64] := rfl
      rw [e0, e1, hcut]
      rfl
    have HTF := Aside0.mk hT
    have HAB := Aside0.mk hab
    have HP1 := Aside0.mk hp1
    have HP2 := Aside0.mk hp2
    have HP3 := Aside0.mk hp3
    have HM := Aside0.mk hm
    clear hT hab hp1 hp2 hp3 hcc hcut hle1 hle2 hl1 hl2 hb1 hb2 hm hs0
    go_upto_region 5 with (first | (go_at_call 71; with_reducible refine Calls.mono (HP1.out _) ?_; rintro e w1 ⟨rfl, rfl⟩) | (go_at_call 72; with_reducible refine Calls.mono (HP2.out _) ?_; rintro e w2 ⟨rfl, rfl⟩))
    have hmc : ∀ o, (w.alloc o).cell? ⟨0, 0, none⟩ = some (.int .i64 m) := fun o => (((Below.refl _ w).alloc (Nat.le_refl _) o).cell (p := ⟨0, 0, none⟩) (by show 0 < w.heap.size; have := HV.out.low; omega)).trans HM.out
    have HMC := Aside0.mk hmc
    clear hmc
    go_upto_region 7 with (first | (go_at_call 18; with_reducible refine Calls.mono (HP3.out _ (HMC.out _)) ?_; rintro e w3 ⟨rfl, q, rfl⟩))
    obtain ⟨w5, hw5⟩ : ∃ w5, w5 = ((((w.alloc (.cells #[.bool false, .string { data := #[] }, .string { data := #[] }] 23)).drewN q).alloc (.cells #[.bool false, .string (str la), .string (str lb)] 23))) := ⟨_, rfl⟩
    rw [← hw5]
    have hr1 : w5.heap[w.heap.size]? = some (.cells #[.bool false, .string { data := #[] }, .string { data := #[] }] 23 (0, 0)) := by
      rw [hw5, heap_alloc_old _ _ (by show w.heap.size < (w.alloc _).heap.size; simp)]
      exact heap_alloc_new _ _
    have hr2 : w5.heap[w.heap.size + 1]? = some (.cells #[.bool false, .string (str la), .string (str lb)] 23 (0, 0)) := by
      rw [hw5]
      have := heap_alloc_new ((w.alloc (.cells #[.bool false, .string { data := #[] }, .string { data := #[] }] 23)).drewN q) (.cells #[.bool false, .string (str la), .string (str lb)] 23)
      have e : ((w.alloc (.cells #[.bool false, .string { data := #[] }, .string { data := #[] }] 23)).drewN q).heap.size = w.heap.size + 1 := by show (w.alloc _).heap.size = _; simp
      rw [e] at this
      exact this
    have hb5 : Below w.heap.size w w5 := by
      rw [hw5]
      exact (below_drewN' ((Below.refl _ w).alloc (Nat.le_refl _) _) q).alloc (by show w.heap.size ≤ (w.alloc _).heap.size; simp) _
    have hs5 : w5.heap.size = w.heap.size + 2 := by rw [hw5]; simp
    have HB5 := Aside0.mk hb5
    have HR1 := Aside0.mk hr1
    have HR2 := Aside0.mk hr2
    have HS5 := Aside0.mk hs5
    clear hw5 hb5 hr1 hr2 hs5
    obtain ⟨c1, c2, c3, f1, f2, f3⟩ := cells3 HR1.out
    obtain ⟨d1, d2, d3, g1, g2, g3⟩ := cells3 HR2.out
    by_cases hall : b1 = true ∧ b2 = true ∧ b3 = true
    · obtain ⟨rfl, rfl, rfl⟩ := hall
      cases hck : V.check ⟨false, la, lb⟩ with
      | true =>
        have HCK := Aside0.mk hck
        go_wp2_with (first | (go_at_call 61; with_reducible refine Calls.mono (check_any false (str la) (str lb) _ (by rw [str_size]; exact HAB.out.1) (by rw [str_size]; exact HAB.out.2) (HV.out.go HB5.out)) ?_; rintro e w6 ⟨rfl, h⟩; rw [lst_str, lst_str, HCK.out]; simp only [errOf, if_true]; have H6 := Aside0.mk h; clear h c1 c2 c3 f1 f2 f3 d1 d2 d3 g1 g2 g3; have R1 := Aside0.mk ((H6.out.block w.heap.size (by rw [HS5.out]; omega)).trans HR1.out); have R2 := Aside0.mk ((H6.out.block (w.heap.size + 1) (by rw [HS5.out]; omega)).trans HR2.out); obtain ⟨c1, c2, c3, f1, f2, f3⟩ := cells3 R1.out; obtain ⟨d1, d2, d3, g1, g2, g3⟩ := cells3 R2.out))
        refine bodyPost_ret (v := T) ?_ rfl ⟨rfl, ?_⟩
        · rw [HTF.out, HCK.out]
          exact results_ct (by rfl) _ _ w.heap.size 23 _ (0, 0) _ rfl (row3 R1.out) Tryz.underlying23 rfl (by kernel_rfl) _ rfl
        · exact (((HB5.out.trans (H6.out.mono HB5.out.size)).setCell (Nat.le_refl _) _).setCell (Nat.le_refl _) _).setCell (Nat.le_refl _) _
      | false =>
        have HCK := Aside0.mk hck
        go_wp2_with (first | (go_at_call 61; with_reducible refine Calls.mono (check_any false (str la) (str lb) _ (by rw [str_size]; exact HAB.out.1) (by rw [str_size]; exact HAB.out.2) (HV.out.go HB5.out)) ?_; rintro e w6 ⟨rfl, h⟩; rw [lst_str, lst_str, HCK.out]; simp only [errOf, Bool.false_eq_true, if_false]; have H6 := Aside0.mk h; clear h c1 c2 c3 f1 f2 f3 d1 d2 d3 g1 g2 g3; have R1 := Aside0.mk ((H6.out.block w.heap.size (by rw [HS5.out]; omega)).trans HR1.out); have R2 := Aside0.mk ((H6.out.block (w.heap.size + 1) (by rw [HS5.out]; omega)).trans HR2.out); obtain ⟨c1, c2, c3, f1, f2, f3⟩ := cells3 R1.out; obtain ⟨d1, d2, d3, g1, g2, g3⟩ := cells3 R2.out))
        refine bodyPost_ret (v := T) ?_ rfl ⟨rfl, ?_⟩
        · rw [HTF.out, HCK.out]
          exact results_ct (by rfl) _ _ w.heap.size 23 _ (0, 0) _ rfl (row3 R1.out) Tryz.underlying23 rfl (by kernel_rfl) _ rfl
        · exact (((HB5.out.trans (H6.out.mono HB5.out.size)).setCell (Nat.le_refl _) _).setCell (Nat.le_refl _) _).setCell (Nat.le_refl _) _
    · have hT : T = pres none := by
        rw [HTF.out]
        congr 1
        rw [if_neg]
        intro h
        simp only [Bool.and_eq_true] at h
        exact hall ⟨h.1.1.1, h.1.1.2, h.1.2⟩
      have HTG := Aside0.mk hT
      have hcases : b1 = false ∨ (b1 = true ∧ b2 = false) ∨ (b1 = true ∧ b2 = true ∧ b3 = false) := by cases b1 <;> cases b2 <;> cases b3 <;> simp_all
      clear hT hall HTF
      rcases hcases with rfl | ⟨rfl, rfl⟩ | ⟨rfl, rfl, rfl⟩
      all_goals go_wp2_with (fail)
      all_goals
        refine bodyPost_ret (v := T) ?_ rfl ⟨rfl, ?_⟩
        · rw [HTG.out]
          exact results_ct (by rfl) _ _ w.heap.size 23 _ (0, 0) _ rfl (row3 HR1.out) Tryz.underlying23 rfl (by kernel_rfl) _ rfl
        · exact ((HB5.out.setCell (Nat.le_refl _) _).setCell (Nat.le_refl _) _).setCell (Nat.le_refl _) _
end Go.Proofs.YteiknmcmaemcoaaGreatDoor
/- What verb's after and one answer. -/
namespace Go.Proofs.YteiknmcmaemcoaaGreatDoor
open Go.RowKit Go.Lib
open Go.Proofs.YteiknmcmaemcoaaGreatDoorW.PrintWords
set_option linter.unusedVariables false
set_option linter.unusedSimpArgs false
set_option maxRecDepth 100000 in
set_option maxHeartbeats 1000000 in
theorem oneCl_any (x s : ByteArray) (B : Nat) (w : World) (hx : x.size ≤ 1000000) (hs : s.size ≤ 1000000) (hB : B < w.heap.size) (hc : w.cell? ⟨B, 0, none⟩ = some (.string s)) :
    Calls Tryz.prog 88 #[.string x, .pointer (some ⟨B, 0, none⟩)] w fun e w' => e = .returned (.bool (decide (V.fold (lst x) = V.fold (lst s)))) ∧ Below w.heap.size w w' := by
  have hkeep : ∀ w' : World, (∀ j, j < w.heap.size → w'.heap[j]? = w.heap[j]?) → w'.cell? ⟨B, 0, none⟩ = some (.string s) := fun w' h => (by unfold World.cell?; rw [h B hB] : w'.cell? ⟨B, 0, none⟩ = w.cell? ⟨B, 0, none⟩).trans hc
  have HK := Aside0.mk hkeep
  have he : ((foldB x).toList == (foldB s).toList) = decide (V.fold (lst x) = V.fold (lst s)) := by
    rw [str_eqB, foldB, foldB, lst_str, lst_str]
  have HE := Aside0.mk he
  clear hkeep he
  go_enter Tryz.func88, Tryz.ntmps88
  go_wp2_with (fail)
  go_region_with (first | (go_at_call 19; (with_reducible refine Calls.mono (fold_any x _ hx) ?_); rintro e w1 ⟨rfl, h⟩; have H1 := Aside0.mk h; have hc1 := HK.out w1 h.block; clear h) | (go_at_call 19; (with_reducible refine Calls.mono (fold_any s _ hs) ?_); rintro e w2 ⟨rfl, h⟩; have H2 := Aside0.mk h; clear h))
  all_goals go_wp2_with (fail)
  all_goals
    have G1 : Below w.heap.size w w1 := ⟨H1.out.os, H1.out.tape, H1.out.output, H1.out.size, H1.out.block⟩
    have G2 : Below w1.heap.size w1 w2 := ⟨H2.out.os, H2.out.tape, H2.out.output, H2.out.size, H2.out.block⟩
    have G3 := G1.trans (G2.mono G1.size)
    go_ret
    refine ⟨?_, ⟨G3.os, G3.tape, G3.output, G3.size, G3.block⟩⟩
    show Ending.returned (Value.bool ((foldB x).toList == (foldB s).toList)) = _
    rw [HE.out]
/-- The first of some words that is a text, folded. -/
def V.find (l : V.Bs) (ws : List V.Bs) (k : Nat) : Option Nat := match ws with
  | [] => none
  | x :: t => if V.fold x = V.fold l then some k else V.find l t (k + 1)
def V.findI (l : V.Bs) (ws : List V.Bs) : Int := match V.find l ws 0 with
  | none => -1
  | some k => k
theorem V.find_drop (l : V.Bs) (ws : List V.Bs) : ∀ n, n ≤ ws.length → (∀ j, j < n → ¬ V.fold (ws.getD j []) = V.fold l) → V.find l ws 0 = V.find l (ws.drop n) n := by
  intro n
  induction n with
  | zero => intro _ _; rfl
  | succ n ih =>
    intro hn h
    rw [ih (by omega) (fun j hj => h j (by omega))]
    have h2 := h n (by omega)
    rw [List.getD_eq_getElem?_getD, List.getElem?_eq_getElem (by omega)] at h2
    rw [List.drop_eq_getElem_cons (by omega), V.find, if_neg (by simpa using h2)]
set_option maxRecDepth 100000 in
set_option maxHeartbeats 1000000 in
theorem idxf_any (ws : List V.Bs) (hws : ∀ x ∈ ws, x.length ≤ 1000000) (hn : ws.length ≤ 1000000) (s : ByteArray) (hs : s.size ≤ 1000000) (b c B t : Nat) (w : World) (hB : B < w.heap.size) (hc : w.cell? ⟨B, 0, none⟩ = some (.string s))
    (hb : w.heap[b]? = some (.cells ((ws.map fun l => Value.string (str l))).toArray t (0, 0))) :
    Calls Tryz.prog 87 #[.slice (some ⟨b, 0, none⟩) ws.length c, .func (.func 88) #[] #[.pointer (some ⟨B, 0, none⟩)]] w fun e w' => e = .returned (.int .i64 (V.findI (lst s) ws)) ∧ Below w.heap.size w w' := by
  have hbl : b < w.heap.size := (Array.getElem?_eq_some_iff.1 hb).1
  obtain ⟨T, hT⟩ : ∃ T, T = V.findI (lst s) ws := ⟨_, rfl⟩
  rw [← hT]
  have HT := Aside0.mk hT
  have HB := Aside0.mk hb
  have HC := Aside0.mk hc
  clear hT hb hc
  go_enter Tryz.func87, Tryz.ntmps87
  go_wp2_with (fail)
  go_loopg [8] ws.length (fun g v8 wr => ∃ n : Nat, n ≤ ws.length ∧ g + n = ws.length ∧ v8 = .int .i64 n ∧ Aside0 ((∀ j, j < n → ¬ V.fold (ws.getD j []) = V.fold (lst s)) ∧ Below w.heap.size w wr))
  case atStart => exact ⟨0, by omega, by omega, rfl, ⟨fun j hj => by omega, Below.refl _ _⟩⟩
  case round =>
    obtain ⟨n, hn2, hg, rfl, H⟩ := hrel
    obtain ⟨wx, rfl⟩ : ∃ wz : World, wz = wr := ⟨_, rfl⟩
    by_cases hlt : n < ws.length
    · obtain ⟨x, hx⟩ : ∃ x, x = ws[n] := ⟨_, rfl⟩
      have hxl : (str x).size ≤ 1000000 := by rw [str_size, hx]; exact hws _ (List.getElem_mem hlt)
      have hcell : wx.cell? ⟨b, n, none⟩ = some (.string (str x)) := by
        rw [H.out.2.cell (p := ⟨b, n, none⟩) hbl, cell_of_row w b _ _ _ _ HB.out]
        rw [List.getElem?_toArray, List.getElem?_map, List.getElem?_eq_getElem hlt, hx]
        rfl
      have hcs : wx.cell? ⟨B, 0, none⟩ = some (.string s) := (H.out.2.cell (p := ⟨B, 0, none⟩) hB).trans HC.out
      have hBx : B < wx.heap.size := Nat.lt_of_lt_of_le hB H.out.2.size
      have hlt' : (n : Int) < (ws.length : Int) := by omega
      have h0 : (0 : Int) ≤ (n : Int) := by omega
      have HX := Aside0.mk hx
      have HCS := Aside0.mk hcs
      clear hx hcs
      by_cases hp : V.fold x = V.fold (lst s)
      · have hT : T = n := by
          rw [HT.out]
          unfold V.findI
          rw [V.find_drop (lst s) ws n hn2 H.out.1, List.drop_eq_getElem_cons hlt, V.find, if_pos (by rw [← HX.out]; exact hp)]
        have HTF := Aside0.mk hT
        have HP := Aside0.mk hp
        clear hT hp
        go_wp2_with (first | (go_at_call 88; (with_reducible refine Calls.mono (oneCl_any (str x) s B wx hxl hs hBx HCS.out) ?_); rintro e w1 ⟨rfl, h⟩; have H1 := Aside0.mk h; clear h; rw [lst_str, decide_eq_true HP.out]))
        go_ret
        exact ⟨by rw [HTF.out]; rfl, H.out.2.trans (H1.out.mono H.out.2.size)⟩
      · have HP := Aside0.mk hp
        clear hp
        go_wp2_with (first | (go_at_call 88; (with_reducible refine Calls.mono (oneCl_any (str x) s B wx hxl hs hBx HCS.out) ?_); rintro e w1 ⟨rfl, h⟩; have H1 := Aside0.mk h; clear h; rw [lst_str, decide_eq_false HP.out]))
        go_roundg (gk - 1)
        case measure => omega
        case rel =>
          refine ⟨n + 1, by omega, by omega, by go_num, ⟨fun j hj => ?_, H.out.2.trans (H1.out.mono H.out.2.size)⟩⟩
          by_cases hjn : j = n
          · subst hjn
            rw [List.getD_eq_getElem?_getD, List.getElem?_eq_getElem hlt]
            show ¬ V.fold ws[j] = _
            rw [← HX.out]
            exact HP.out
          · exact H.out.1 j (by omega)
    · have hne : n = ws.length := by omega
      have hT : T = -1 := by
        rw [HT.out]
        unfold V.findI
        rw [V.find_drop (lst s) ws n hn2 H.out.1, hne, List.drop_length]
        rfl
      have HTF := Aside0.mk hT
      have t1 : decide ((n : Int) < (ws.length : Int)) = false := by simp; omega
      have t2 : decide (n < ws.length) = false := by simp; omega
      clear hT hne
      go_wp2_with (fail)
      go_ret
      exact ⟨by rw [HTF.out]; rfl, H.out.2⟩
def V.one (l : V.Bs) (ws : List V.Bs) : Option V.Bs := (V.find l ws 0).map fun k => ws.getD k []
/-- A text or none, and whether it is one. -/
def oRes (o : Option V.Bs) : Value := .tuple #[.string (str (o.getD [])), .bool o.isSome]
theorem V.find_lt (l : V.Bs) : ∀ (ws : List V.Bs) (k n : Nat), V.find l ws k = some n → k ≤ n ∧ n < k + ws.length
  | [], k, n, h => by simp [V.find] at h
  | x :: t, k, n, h => by
    unfold V.find at h
    split at h
    · simp at h; subst h; simp
    · have := V.find_lt l t (k + 1) n h; simp; omega
set_option maxRecDepth 100000 in
set_option maxHeartbeats 1000000 in
theorem one_any (ws : List V.Bs) (hws : ∀ x ∈ ws, x.length ≤ 1000000) (hn : ws.length ≤ 1000000) (s : ByteArray) (hs : s.size ≤ 1000000) (b c t : Nat) (w : World)
    (hb : w.heap[b]? = some (.cells ((ws.map fun l => Value.string (str l))).toArray t (0, 0))) :
    Calls Tryz.prog 73 #[.string s, .slice (some ⟨b, 0, none⟩) ws.length c] w fun e w' => e = .returned (oRes (V.one (lst s) ws)) ∧ Below w.heap.size w w' := by
  obtain ⟨T, hT⟩ : ∃ T, T = oRes (V.one (lst s) ws) := ⟨_, rfl⟩
  rw [← hT]
  have HT := Aside0.mk hT
  have hbl : b < w.heap.size := (Array.getElem?_eq_some_iff.1 hb).1
  obtain ⟨wA, hwA⟩ : ∃ wA, wA = w.alloc (.cells #[.string s] 9) := ⟨_, rfl⟩
  have hb2 : wA.heap[b]? = some (.cells ((ws.map fun l => Value.string (str l))).toArray t (0, 0)) := by rw [hwA, heap_alloc_old _ _ hbl]; exact hb
  have hc2 : wA.cell? ⟨w.heap.size, 0, none⟩ = some (.string s) := by rw [hwA]; simp
  have hs2 : w.heap.size < wA.heap.size := by rw [hwA]; simp
  have hbA : Below w.heap.size w wA := by rw [hwA]; exact (Below.refl _ w).alloc (Nat.le_refl _) _
  have hcon := idxf_any ws hws hn s hs b c w.heap.size t wA hs2 hc2 hb2
  have HC := Aside0.mk hcon
  have HB2 := Aside0.mk hb2
  have HBA := Aside0.mk hbA
  clear hT hb hb2 hbA hcon hc2
  subst hwA
  go_enter Tryz.func73, Tryz.ntmps73
  cases hf : V.find (lst s) ws 0 with
  | none =>
    have hv : V.findI (lst s) ws = -1 := by unfold V.findI; rw [hf]
    have hT : T = .tuple #[.string (str []), .bool false] := by rw [HT.out]; unfold V.one; rw [hf]; rfl
    have HTF := Aside0.mk hT
    have HV := Aside0.mk hv
    clear hT hv
    go_wp2_with (first | (go_at_call 87; (with_reducible refine Calls.mono HC.out ?_); rintro e w1 ⟨rfl, h⟩; have H1 := Aside0.mk h; clear h; rw [HV.out]))
    go_ret2
    exact ⟨by rw [HTF.out]; rfl, HBA.out.trans (H1.out.mono HBA.out.size)⟩
  | some k =>
    have hk := V.find_lt _ _ _ _ hf
    have hkl : k < ws.length := by omega
    have hv : V.findI (lst s) ws = k := by unfold V.findI; rw [hf]
    have hT : T = .tuple #[.string (str (ws.getD k [])), .bool true] := by rw [HT.out]; unfold V.one; rw [hf]; rfl
    have HTF := Aside0.mk hT
    have HV := Aside0.mk hv
    have hk1 : (k : Int) < (ws.length : Int) := by omega
    have hk0 : (0 : Int) ≤ (k : Int) := by omega
    obtain ⟨x, hx⟩ : ∃ x, x = ws.getD k [] := ⟨_, rfl⟩
    rw [← hx] at HTF
    obtain ⟨wA, hwA⟩ : ∃ wA, wA = w.alloc (.cells #[.string s] 9) := ⟨_, rfl⟩
    have HB3 := HB2.out
    rw [← hwA] at HB3 hs2
    have hcell : ∀ w1, Below wA.heap.size wA w1 → w1.cell? ⟨b, k, none⟩ = some (.string (str x)) := by
      intro w1 h1
      rw [h1.cell (p := ⟨b, k, none⟩) (show b < wA.heap.size by omega), cell_of_row wA b _ _ _ _ HB3, List.getElem?_toArray, List.getElem?_map, List.getElem?_eq_getElem hkl, hx, List.getD_eq_getElem?_getD, List.getElem?_eq_getElem hkl]
      rfl
    have HCE := Aside0.mk hcell
    subst hwA
    clear hT hv hf hk hcell hx HB3
    go_wp2_with (first | (go_at_call 87; (with_reducible refine Calls.mono HC.out ?_); rintro e w1 ⟨rfl, h⟩; have hcx := HCE.out _ h; have H1 := Aside0.mk h; clear h; rw [HV.out]))
    go_ret2
    exact ⟨by rw [HTF.out]; rfl, HBA.out.trans (H1.out.mono HBA.out.size)⟩
end Go.Proofs.YteiknmcmaemcoaaGreatDoor
/- What verb's after, named and strange answer. -/
namespace Go.Proofs.YteiknmcmaemcoaaGreatDoor
open Go.RowKit Go.Lib
open Go.Proofs.YteiknmcmaemcoaaGreatDoorW.PrintWords
set_option linter.unusedVariables false
set_option linter.unusedSimpArgs false
/-- What stands behind a beginning, folded. -/
def V.after (l b : V.Bs) : Option V.Bs := if b.length ≤ l.length ∧ V.fold (l.take b.length) = V.fold b then some (l.drop b.length) else none
theorem slice_to (s : ByteArray) (n : Nat) (h : n ≤ s.size) (X : ByteArray) (hX : X = str ((lst s).take n)) (w : World) : (Instr.slice 9 (.string s) none (some (.int .i64 (n : Int))) none).run Tryz.prog w = .ok (.string X) w := by
  rw [run_slice_string_to_if w 9 s .i64 (n : Int) Tryz.underlying9, if_pos (by omega)]
  subst hX
  have e : s.extract 0 (n : Int).toNat = str ((lst s).take n) := by
    rw [← str_lst (s.extract 0 (n : Int).toNat)]
    congr 1
    simp [lst, ByteArray.data_extract]
  rw [e]
theorem slice_from (s : ByteArray) (n : Nat) (h : n ≤ s.size) (X : ByteArray) (hX : X = str ((lst s).drop n)) (w : World) : (Instr.slice 9 (.string s) (some (.int .i64 (n : Int))) none none).run Tryz.prog w = .ok (.string X) w := by
  rw [run_slice_string_from_if w 9 s .i64 (n : Int) Tryz.underlying9, if_pos (by omega)]
  subst hX
  have e : s.extract (n : Int).toNat s.size = str ((lst s).drop n) := by
    rw [← str_lst (s.extract (n : Int).toNat s.size)]
    congr 1
    have hl := lst_length s
    unfold lst at hl
    simp [lst, ByteArray.data_extract]
    rw [List.take_of_length_le]
    simp
  rw [e]
set_option maxRecDepth 100000 in
set_option maxHeartbeats 1000000 in
theorem after_any (s D : ByteArray) (w : World) (hs : s.size ≤ 1000000) (hD : D.size ≤ 1000000) :
    Calls Tryz.prog 43 #[.string s, .string D] w fun e w' => e = .returned (oRes (V.after (lst s) (lst D))) ∧ Below w.heap.size w w' := by
  obtain ⟨T, hT⟩ : ∃ T, T = oRes (V.after (lst s) (lst D)) := ⟨_, rfl⟩
  rw [← hT]
  have HT := Aside0.mk hT
  clear hT
  go_enter Tryz.func43, Tryz.ntmps43
  by_cases hle : D.size ≤ s.size
  · obtain ⟨X, hX⟩ : ∃ X, X = str ((lst s).take D.size) := ⟨_, rfl⟩
    obtain ⟨Y, hY⟩ : ∃ Y, Y = str ((lst s).drop D.size) := ⟨_, rfl⟩
    have h1 := slice_to s D.size hle X hX
    have h2 := slice_from s D.size hle Y hY
    have hXs : X.size ≤ 1000000 := by rw [hX, str_size]; simp; omega
    have t1 : decide ((s.size : Int) < (D.size : Int)) = false := by simp; omega
    have t2 : decide (s.size < D.size) = false := by simp; omega
    by_cases hf : V.fold ((lst s).take D.size) = V.fold (lst D)
    · have hT : T = .tuple #[.string Y, .bool true] := by rw [HT.out]; unfold V.after; rw [lst_length, lst_length, if_pos ⟨hle, hf⟩, hY]; rfl
      have HTF := Aside0.mk hT
      have t3 : ((foldB X).toList == (foldB D).toList) = true := by
        rw [str_eqB]; unfold foldB; rw [lst_str, lst_str, hX, lst_str]; exact decide_eq_true hf
      clear hT hf hX hY
      go_wp2_with (first | (go_at_call 19; (with_reducible refine Calls.mono (fold_any X _ hXs) ?_); rintro e w1 ⟨rfl, h⟩; have H1 := Aside0.mk h; clear h) | (go_at_call 19; (with_reducible refine Calls.mono (fold_any D _ hD) ?_); rintro e w2 ⟨rfl, h⟩; have H2 := Aside0.mk h; clear h))
      go_ret2
      exact ⟨by rw [HTF.out]; rfl, H1.out.trans (H2.out.mono H1.out.size)⟩
    · have hT : T = .tuple #[.string ByteArray.empty, .bool false] := by rw [HT.out]; unfold V.after; rw [lst_length, lst_length, if_neg (fun h => hf h.2)]; rfl
      have HTF := Aside0.mk hT
      have t3 : ((foldB X).toList == (foldB D).toList) = false := by
        rw [str_eqB]; unfold foldB; rw [lst_str, lst_str, hX, lst_str]; exact decide_eq_false hf
      clear hT hf hX hY
      go_wp2_with (first | (go_at_call 19; (with_reducible refine Calls.mono (fold_any X _ hXs) ?_); rintro e w1 ⟨rfl, h⟩; have H1 := Aside0.mk h; clear h) | (go_at_call 19; (with_reducible refine Calls.mono (fold_any D _ hD) ?_); rintro e w2 ⟨rfl, h⟩; have H2 := Aside0.mk h; clear h))
      go_ret2
      exact ⟨by rw [HTF.out]; rfl, H1.out.trans (H2.out.mono H1.out.size)⟩
  · have hT : T = .tuple #[.string ByteArray.empty, .bool false] := by rw [HT.out]; unfold V.after; rw [lst_length, lst_length, if_neg (fun h => hle h.1)]; rfl
    have HTF := Aside0.mk hT
    have t1 : decide ((s.size : Int) < (D.size : Int)) = true := by simp; omega
    have t2 : decide (s.size < D.size) = true := by simp; omega
    clear hT hle
    go_wp2_with (fail)
    go_ret2
    exact ⟨by rw [HTF.out]; rfl, Below.refl _ _⟩
end Go.Proofs.YteiknmcmaemcoaaGreatDoor
/- What verb's named and strange answer. -/
namespace Go.Proofs.YteiknmcmaemcoaaGreatDoor
open Go.RowKit Go.Lib
open Go.Proofs.YteiknmcmaemcoaaGreatDoorW.PrintWords
set_option linter.unusedVariables false
set_option linter.unusedSimpArgs false
/-- A command's cells. -/
def cv (k : Int) (t : ByteArray) (n : Bool) (l d : ByteArray) (sl : Value) : Array Value := #[.int .i64 k, .string t, .bool n, .string l, .string d, sl]
def noSl : Value := .slice none 0 0
theorem row6 {w : World} {g t : Nat} {fr : Nat × Nat} {x0 x1 x2 x3 x4 x5 a0 a1 a2 a3 a4 a5 : Value} (h : w.heap[g]? = some (.cells #[x0, x1, x2, x3, x4, x5] t fr)) :
    ((((((w.setCell ⟨g, 0, none⟩ a0).setCell ⟨g, 1, none⟩ a1).setCell ⟨g, 2, none⟩ a2).setCell ⟨g, 3, none⟩ a3).setCell ⟨g, 4, none⟩ a4).setCell ⟨g, 5, none⟩ a5).heap[g]? = some (.cells #[a0, a1, a2, a3, a4, a5] t fr) :=
  setCell_row _ g 5 _ _ _ a5 (setCell_row _ g 4 _ _ _ a4 (setCell_row _ g 3 _ _ _ a3 (setCell_row _ g 2 _ _ _ a2 (setCell_row _ g 1 _ _ _ a1 (setCell_row _ g 0 _ _ _ a0 h)))))
theorem below6 {w0 w : World} {B g : Nat} {a0 a1 a2 a3 a4 a5 : Value} (h : Below B w0 w) (hg : B ≤ g) :
    Below B w0 ((((((w.setCell ⟨g, 0, none⟩ a0).setCell ⟨g, 1, none⟩ a1).setCell ⟨g, 2, none⟩ a2).setCell ⟨g, 3, none⟩ a3).setCell ⟨g, 4, none⟩ a4).setCell ⟨g, 5, none⟩ a5) :=
  (((((h.setCell hg _).setCell hg _).setCell hg _).setCell hg _).setCell hg _).setCell hg _
theorem cells6 {w : World} {g t : Nat} {x0 x1 x2 x3 x4 x5 : Value} (h : w.heap[g]? = some (.cells #[x0, x1, x2, x3, x4, x5] t (0, 0))) :
    (w.cell? ⟨g, 0, none⟩ = some x0 ∧ w.cell? ⟨g, 1, none⟩ = some x1 ∧ w.cell? ⟨g, 2, none⟩ = some x2 ∧ w.cell? ⟨g, 3, none⟩ = some x3 ∧ w.cell? ⟨g, 4, none⟩ = some x4 ∧ w.cell? ⟨g, 5, none⟩ = some x5) ∧
    (w.frozen? ⟨g, 0, none⟩ = false ∧ w.frozen? ⟨g, 1, none⟩ = false ∧ w.frozen? ⟨g, 2, none⟩ = false ∧ w.frozen? ⟨g, 3, none⟩ = false ∧ w.frozen? ⟨g, 4, none⟩ = false ∧ w.frozen? ⟨g, 5, none⟩ = false) := by
  refine ⟨⟨?_, ?_, ?_, ?_, ?_, ?_⟩, unfroz h _, unfroz h _, unfroz h _, unfroz h _, unfroz h _, unfroz h _⟩ <;> (rw [cell_of_row w g _ _ _ _ h]; rfl)
def named (k : Int) (s : ByteArray) (ok : Bool) : Value := .tuple #[.agg (if ok then cv k s false ByteArray.empty ByteArray.empty noSl else cv 0 ByteArray.empty false ByteArray.empty ByteArray.empty noSl), .bool ok]
set_option maxRecDepth 100000 in
set_option maxHeartbeats 1000000 in
theorem named_any (k : Int) (s : ByteArray) (w : World) (hs : s.size ≤ 100000) (hv : Vars w) :
    Calls Tryz.prog 41 #[.int .i64 k, .string s] w fun e w' => e = .returned (named k s (V.domain (lst s))) ∧ Below w.heap.size w w' := by
  obtain ⟨T, hT⟩ : ∃ T, T = named k s (V.domain (lst s)) := ⟨_, rfl⟩
  rw [← hT]
  have HT := Aside0.mk hT
  have HV := Aside0.mk (hv.go ((Below.refl _ w).alloc (Nat.le_refl _) (.cells #[.int .i64 0, .string { data := #[] }, .bool false, .string { data := #[] }, .string { data := #[] }, .slice none 0 0] 26)))
  have hkeep : ∀ w', Below (w.alloc (.cells #[.int .i64 0, .string { data := #[] }, .bool false, .string { data := #[] }, .string { data := #[] }, .slice none 0 0] 26)).heap.size (w.alloc (.cells #[.int .i64 0, .string { data := #[] }, .bool false, .string { data := #[] }, .string { data := #[] }, .slice none 0 0] 26)) w' →
      w'.heap[w.heap.size]? = some (.cells #[.int .i64 0, .string { data := #[] }, .bool false, .string { data := #[] }, .string { data := #[] }, .slice none 0 0] 26 (0, 0)) := fun w' h => (h.block w.heap.size (by simp)).trans (heap_alloc_new _ _)
  have HK := Aside0.mk hkeep
  clear hT hv hkeep
  go_enter Tryz.func41, Tryz.ntmps41
  cases hd : V.domain (lst s) with
  | true =>
    have HD := Aside0.mk hd
    go_wp2_with (first | (go_at_call 56; (with_reducible refine Calls.mono (domain_any s _ (by omega) HV.out) ?_); rintro e w1 ⟨rfl, h⟩; have H1 := Aside0.mk h; have R := Aside0.mk (HK.out _ h); clear h; obtain ⟨⟨c0, c1, c2, c3, c4, c5⟩, f0, f1, f2, f3, f4, f5⟩ := cells6 R.out; rw [HD.out]))
    refine bodyPost_ret (v := T) ?_ rfl ⟨rfl, ?_⟩
    · rw [HT.out, HD.out]
      exact results_ct (by rfl) _ _ w.heap.size 26 _ (0, 0) _ rfl (row6 R.out) Tryz.underlying26 rfl (by kernel_rfl) _ rfl
    · exact below6 (((Below.refl _ w).alloc (Nat.le_refl _) _).trans (H1.out.mono (by simp))) (Nat.le_refl _)
  | false =>
    have HD := Aside0.mk hd
    go_wp2_with (first | (go_at_call 56; (with_reducible refine Calls.mono (domain_any s _ (by omega) HV.out) ?_); rintro e w1 ⟨rfl, h⟩; have H1 := Aside0.mk h; have R := Aside0.mk (HK.out _ h); clear h; obtain ⟨⟨c0, c1, c2, c3, c4, c5⟩, f0, f1, f2, f3, f4, f5⟩ := cells6 R.out; rw [HD.out]))
    refine bodyPost_ret (v := T) ?_ rfl ⟨rfl, ?_⟩
    · rw [HT.out, HD.out]
      exact results_ct (by rfl) _ _ w.heap.size 26 _ (0, 0) _ rfl (row6 R.out) Tryz.underlying26 rfl (by kernel_rfl) _ rfl
    · exact below6 (((Below.refl _ w).alloc (Nat.le_refl _) _).trans (H1.out.mono (by simp))) (Nat.le_refl _)
def authB : V.Bs := [97, 117, 116, 104, 32]
/-- Another way to prove who one is? -/
def V.strange (l : V.Bs) : Bool := match V.after l authB with
  | none => false
  | some r => r.all goodL && !r.isEmpty
theorem goodL_int (c : UInt8) (x : Int) (hx : x = (c.toNat : Int)) : goodL c = (decide (97 ≤ x ∧ x ≤ 122) || decide (65 ≤ x ∧ x ≤ 90) || decide (48 ≤ x ∧ x ≤ 57) || decide (x = 45)) := by
  unfold goodL
  rw [byte_45 c x hx]
  congr 1
  subst hx
  unfold V.isPlain
  simp only [UInt8.le_iff_toNat_le]
  congr 1
  · congr 1
    · apply decide_eq_decide.2
      constructor <;> (simp; omega)
    · apply decide_eq_decide.2
      constructor <;> (simp; omega)
  · apply decide_eq_decide.2
    constructor <;> (simp; omega)
set_option maxRecDepth 100000 in
set_option maxHeartbeats 1000000 in
theorem strange_any (s : ByteArray) (w : World) (hs : s.size ≤ 100000) :
    Calls Tryz.prog 23 #[.string s] w fun e w' => e = .returned (.bool (V.strange (lst s))) ∧ Below w.heap.size w w' := by
  obtain ⟨T, hT⟩ : ∃ T, T = V.strange (lst s) := ⟨_, rfl⟩
  rw [← hT]
  have HT := Aside0.mk hT
  clear hT
  obtain ⟨D, hD⟩ : ∃ D, D = str authB := ⟨_, rfl⟩
  have hdd : ({ data := #[97, 117, 116, 104, 32] } : ByteArray) = D := hD.symm
  obtain ⟨r, hr⟩ : ∃ r, r = str ((V.after (lst s) authB).getD []) := ⟨_, rfl⟩
  obtain ⟨b, hb⟩ : ∃ b, b = (V.after (lst s) authB).isSome := ⟨_, rfl⟩
  have hrl : r.size ≤ 100000 := by
    rw [hr, str_size]
    cases ha : V.after (lst s) authB with
    | none => simp
    | some x =>
      unfold V.after at ha
      split at ha
      · cases ha; simp [lst_length]; omega
      · cases ha
  have hcon : ∀ w, Calls Tryz.prog 43 #[.string s, .string D] w fun e w' => e = .returned (.tuple #[.string r, .bool b]) ∧ Below w.heap.size w w' := by
    intro w
    have h := after_any s D w (by omega) (by rw [hD]; decide)
    rw [show lst D = authB by rw [hD, lst_str]] at h
    unfold oRes at h
    rw [← hr, ← hb] at h
    exact h
  have hT : T = ((lst r).all goodL && (b && !(lst r).isEmpty)) := by
    rw [HT.out]; unfold V.strange
    rw [hr, hb, lst_str]
    cases V.after (lst s) authB <;> simp
  have HTF := Aside0.mk hT
  have HC := Aside0.mk hcon
  clear hT hcon hr hb hD
  go_enter Tryz.func23, Tryz.ntmps23
  go_upto_region 1 with (fail)
  rw [hdd]
  clear hdd
  go_wp2_with (first | (go_at_call 43; (with_reducible refine Calls.mono (HC.out _) ?_); rintro e w1 ⟨rfl, h⟩; have H1 := Aside0.mk h; clear h))
  go_loopg [14] r.size (fun g v14 wr => ∃ n : Nat, n ≤ r.size ∧ g + n = r.size ∧ v14 = .int .i64 n ∧ wr = w1 ∧ Aside0 (((lst r).take n).all goodL = true))
  case atStart => exact ⟨0, by omega, by omega, rfl, rfl, ⟨by simp⟩⟩
  case round =>
    obtain ⟨n, hn, hg, rfl, rfl, H⟩ := hrel
    by_cases hlt : n < r.size
    · obtain ⟨c, hc⟩ : ∃ c, c = (lst r).getD n 0 := ⟨_, rfl⟩
      obtain ⟨x, hx⟩ : ∃ x : Int, x = (c.toNat : Int) := ⟨_, rfl⟩
      have hix := fun w => index_str r n hlt c hc x hx w
      have hstep := all_take (lst r) goodL n (by rw [lst_length]; exact hlt) c hc
      have hbad := all_false (lst r) goodL n (by rw [lst_length]; exact hlt) c hc
      have hlt' : (n : Int) < (r.size : Int) := by omega
      have h0 : (0 : Int) ≤ (n : Int) := by omega
      have HX := Aside0.mk hx
      have HS := Aside0.mk hstep
      have HB := Aside0.mk hbad
      have HG := Aside0.mk (goodL_int c x hx)
      clear hx hc hstep hbad
      go_wp2_with (fail)
      all_goals try simp only [Bool.not_eq_eq_eq_not, Bool.not_true, Bool.not_false, decide_eq_false_iff_not, decide_eq_true_eq, beq_iff_eq, beq_eq_false_iff_ne, ne_eq] at *
      all_goals first
        | (have hgt : goodL c = true := by rw [HG.out]; simp; omega
           go_roundg (gk - 1)
           case measure => omega
           case rel => exact ⟨n + 1, by omega, by omega, by go_num, rfl, ⟨by rw [HS.out, H.out, hgt]; rfl⟩⟩)
        | (have hgf : goodL c = false := by rw [HG.out]; simp; omega
           go_ret
           refine ⟨?_, H1.out⟩
           rw [HTF.out, HB.out hgf]
           rfl)
    · have hne : n = r.size := by omega
      have e : (lst r).take n = lst r := by rw [hne, ← lst_length, List.take_length]
      rw [e] at H
      have hT : T = (b && !r.toList.isEmpty) := by rw [HTF.out, H.out, emp_str]; rfl
      have HTG := Aside0.mk hT
      have t1 : decide ((n : Int) < (r.size : Int)) = false := by simp; omega
      have t2 : decide (n < r.size) = false := by simp; omega
      clear hT hne e
      cases b with
      | true =>
        go_wp2_with (fail)
        go_ret
        exact ⟨by rw [HTG.out]; rfl, H1.out⟩
      | false =>
        go_wp2_with (fail)
        go_ret
        exact ⟨by rw [HTG.out]; rfl, H1.out⟩
end Go.Proofs.YteiknmcmaemcoaaGreatDoor
/- What verb's number and value answer. -/
namespace Go.Proofs.YteiknmcmaemcoaaGreatDoor
open Go.RowKit Go.Lib
open Go.Proofs.YteiknmcmaemcoaaGreatDoorW.PrintWords
set_option linter.unusedVariables false
set_option linter.unusedSimpArgs false
/-- A number of few digits? -/
def V.number (l : V.Bs) : Bool := match Lib.atoiAll l with
  | .ok v => decide (0 ≤ v) && (decide (l.length ≤ 9) && decide (Lib.itoa v = l))
  | _ => false
theorem Below.one {w w' : World} (h : w' = w ∨ ∃ t, w' = Lib.bytesWorld w 5 t) : Below w.heap.size w w' := by
  rcases h with rfl | ⟨t, rfl⟩
  · exact Below.refl _ _
  · exact Lib.bytesWorld_below w _ t
theorem num_cases (x : Lib.NumEnd Int) : (∃ v, x = Lib.NumEnd.ok v) ∨ x = Lib.NumEnd.syntax ∨ x = Lib.NumEnd.range := by
  cases x <;> simp
set_option maxRecDepth 100000 in
set_option maxHeartbeats 1000000 in
theorem number_any (s : ByteArray) (w : World) (hs : s.size ≤ 100000) (hv : Vars w) :
    Calls Tryz.prog 89 #[.string s] w fun e w' => e = .returned (.bool (V.number (lst s))) ∧ Below w.heap.size w w' := by
  obtain ⟨T, hT⟩ : ∃ T, T = V.number (lst s) := ⟨_, rfl⟩
  rw [← hT]
  have HT := Aside0.mk hT
  have HV := Aside0.mk hv
  clear hT hv
  go_enter Tryz.func89, Tryz.ntmps89
  rcases num_cases (Lib.atoiAll (lst s)) with ⟨v, ha⟩ | ha | ha
  · skip
    have hb := Lib.atoiAll_bounds ha
    have hT : T = (decide (0 ≤ v) && (decide (s.size ≤ 9) && decide (Lib.itoa v = lst s))) := by rw [HT.out]; unfold V.number; rw [ha, lst_length]
    have HTF := Aside0.mk hT
    have hc1 := Tryz.strconv_Atoi_ok s (by omega) v ha w
    have HC1 := Aside0.mk hc1
    have HBD := Aside0.mk hb
    obtain ⟨I, hI⟩ : ∃ I : ByteArray, I = ⟨(Lib.itoa v).toArray⟩ := ⟨_, rfl⟩
    have hc2 : ∀ w1, Vars w1 → Calls Tryz.prog 94 #[.int .i64 v] w1 fun e w' => e = .returned (.string I) ∧ Below w1.heap.size w1 w' := by
      intro w1 hv1
      refine (Tryz.strconv_Itoa v (by have := HBD.out; omega) (by have := HBD.out; omega) w1 hv1.pow).mono ?_
      rintro e w' ⟨rfl, k, os, rfl⟩
      exact ⟨by rw [hI], below_grown _ k os⟩
    have HC2 := Aside0.mk hc2
    have he : (I.toList == s.toList) = decide (Lib.itoa v = lst s) := by rw [str_eqB, hI]; rfl
    have HE := Aside0.mk he
    clear hT ha hb hc1 hc2 hI he
    by_cases hpos : 0 ≤ v
    · by_cases hlen : s.size ≤ 9
      · have h9 : (s.size : Int) ≤ 9 := by omega
        go_wp2_with (first | (go_at_call 93; (with_reducible refine Calls.mono HC1.out ?_); rintro e w1 ⟨rfl, h⟩; have H1 := Aside0.mk (Below.one h); clear h) | (go_at_call 94; (with_reducible refine Calls.mono (HC2.out _ (HV.out.go H1.out)) ?_); rintro e w2 ⟨rfl, h⟩; have H2 := Aside0.mk h; clear h))
        go_ret
        refine ⟨?_, H1.out.trans (H2.out.mono H1.out.size)⟩
        rw [HTF.out, decide_eq_true hpos, decide_eq_true hlen, ← HE.out]
        rfl
      · have h9 : decide ((s.size : Int) ≤ 9) = false := by simp; omega
        have h9b : decide (s.size ≤ 9) = false := by simp; omega
        go_wp2_with (first | (go_at_call 93; (with_reducible refine Calls.mono HC1.out ?_); rintro e w1 ⟨rfl, h⟩; have H1 := Aside0.mk (Below.one h); clear h) | (go_at_call 94; (with_reducible refine Calls.mono (HC2.out _ (HV.out.go H1.out)) ?_); rintro e w2 ⟨rfl, h⟩; have H2 := Aside0.mk h; clear h))
        go_ret
        refine ⟨?_, H1.out⟩
        rw [HTF.out, decide_eq_true hpos, h9b]
        rfl
    · have hneg : decide (0 ≤ v) = false := decide_eq_false hpos
      go_wp2_with (first | (go_at_call 93; (with_reducible refine Calls.mono HC1.out ?_); rintro e w1 ⟨rfl, h⟩; have H1 := Aside0.mk (Below.one h); clear h) | (go_at_call 94; (with_reducible refine Calls.mono (HC2.out _ (HV.out.go H1.out)) ?_); rintro e w2 ⟨rfl, h⟩; have H2 := Aside0.mk h; clear h))
      go_ret
      refine ⟨?_, H1.out⟩
      rw [HTF.out, hneg]
      rfl
  · skip
    have hT : T = false := by rw [HT.out]; unfold V.number; rw [ha]
    have HTF := Aside0.mk hT
    obtain ⟨tp, p, hp⟩ := HV.out.syn
    have hc1 := Tryz.strconv_Atoi_syntax_var s (by omega) ha tp p w hp
    have HC1 := Aside0.mk hc1
    clear hT ha hc1 hp
    go_wp2_with (first | (go_at_call 93; (with_reducible refine Calls.mono HC1.out ?_); rintro e w1 ⟨N, rfl, h1, h2, h⟩; have H1 := Aside0.mk h; clear h h1 h2))
    go_ret
    exact ⟨by rw [HTF.out]; rfl, H1.out⟩
  · skip
    have hT : T = false := by rw [HT.out]; unfold V.number; rw [ha]
    have HTF := Aside0.mk hT
    obtain ⟨tp, p, hp⟩ := HV.out.rng
    have hc1 := Tryz.strconv_Atoi_range_var s (by omega) ha tp p w hp
    have HC1 := Aside0.mk hc1
    clear hT ha hc1 hp
    go_wp2_with (first | (go_at_call 93; (with_reducible refine Calls.mono HC1.out ?_); rintro e w1 ⟨N, rfl, h1, h2, h⟩; have H1 := Aside0.mk h; clear h h1 h2))
    go_ret
    exact ⟨by rw [HTF.out]; rfl, H1.out⟩
theorem one_two (a b : V.Bs) (A B : ByteArray) (hA : str a = A) (hB : str b = B) (la : a.length ≤ 100) (lb : b.length ≤ 100) (val : ByteArray) (hs : val.size ≤ 1000000) (w : World) :
    Calls Tryz.prog 73 #[.string val, .slice (some ⟨w.heap.size, 0, none⟩) 2 2] (w.alloc (.cells #[.string A, .string B] 9)) fun e w' => e = .returned (oRes (V.one (lst val) [a, b])) ∧ Below w.heap.size w w' := by
  subst hA hB
  refine (one_any [a, b] (by simp; omega) (by simp) val hs w.heap.size 2 9 (w.alloc (.cells #[.string (str a), .string (str b)] 9)) (heap_alloc_new _ _)).mono ?_
  rintro e w' ⟨rfl, h⟩
  exact ⟨rfl, ((Below.refl _ w).alloc (Nat.le_refl _) _).trans (h.mono (by simp))⟩
theorem one_three (a b c : V.Bs) (A B C : ByteArray) (hA : str a = A) (hB : str b = B) (hC : str c = C) (la : a.length ≤ 100) (lb : b.length ≤ 100) (lc : c.length ≤ 100) (val : ByteArray) (hs : val.size ≤ 1000000) (w : World) :
    Calls Tryz.prog 73 #[.string val, .slice (some ⟨w.heap.size, 0, none⟩) 3 3] (w.alloc (.cells #[.string A, .string B, .string C] 9)) fun e w' => e = .returned (oRes (V.one (lst val) [a, b, c])) ∧ Below w.heap.size w w' := by
  subst hA hB hC
  refine (one_any [a, b, c] (by simp; omega) (by simp) val hs w.heap.size 3 9 (w.alloc (.cells #[.string (str a), .string (str b), .string (str c)] 9)) (heap_alloc_new _ _)).mono ?_
  rintro e w' ⟨rfl, h⟩
  exact ⟨rfl, ((Below.refl _ w).alloc (Nat.le_refl _) _).trans (h.mono (by simp))⟩
def wSIZE : V.Bs := [83, 73, 90, 69]
def wRET : V.Bs := [82, 69, 84]
def wNOTIFY : V.Bs := [78, 79, 84, 73, 70, 89]
def wFULL : V.Bs := [70, 85, 76, 76]
def wHDRS : V.Bs := [72, 68, 82, 83]
def wNEVER : V.Bs := [78, 69, 86, 69, 82]
def wFAILURE : V.Bs := [70, 65, 73, 76, 85, 82, 69]
/-- A parameter's value as it is kept, and whether it is one. -/
def V.value (k : Int) (key val : V.Bs) : V.Bs × Bool :=
  if k = 2 ∧ key = wSIZE then (val, V.number val)
  else if k = 2 ∧ key = wRET then ((V.one val [wFULL, wHDRS]).getD [], (V.one val [wFULL, wHDRS]).isSome)
  else if k = 3 ∧ key = wNOTIFY then ((V.one val [wNEVER, wFAILURE]).getD [], (V.one val [wNEVER, wFAILURE]).isSome)
  else ([], false)
def pairV (p : V.Bs × Bool) : Value := .tuple #[.string (str p.1), .bool p.2]
theorem eq_const (s : ByteArray) (L : List UInt8) (b : V.Bs) (hb : b = L) : (s.toList == L) = decide (lst s = b) := by
  subst hb
  rw [ByteArray.toList_eq]
  show (lst s == b) = _
  rw [Bool.eq_iff_iff]; simp
set_option maxRecDepth 100000 in
set_option maxHeartbeats 1000000 in
theorem value_any (k : Int) (key val : ByteArray) (w : World) (hs : val.size ≤ 100000) (hv : Vars w) :
    Calls Tryz.prog 74 #[.int .i64 k, .string key, .string val] w fun e w' => e = .returned (pairV (V.value k (lst key) (lst val))) ∧ Below w.heap.size w w' := by
  obtain ⟨T, hT⟩ : ∃ T, T = pairV (V.value k (lst key) (lst val)) := ⟨_, rfl⟩
  rw [← hT]
  have HT := Aside0.mk hT
  have HV := Aside0.mk hv
  clear hT hv
  have e1 := eq_const key [83, 73, 90, 69] wSIZE rfl
  have e2 := eq_const key [82, 69, 84] wRET rfl
  have e3 := eq_const key [78, 79, 84, 73, 70, 89] wNOTIFY rfl
  go_enter Tryz.func74, Tryz.ntmps74
  by_cases h1 : k = 2 ∧ lst key = wSIZE
  · obtain ⟨rfl, hk⟩ := h1
    have t1 : (key.toList == [83, 73, 90, 69]) = true := by rw [e1]; exact decide_eq_true hk
    have hT : T = .tuple #[.string val, .bool (V.number (lst val))] := by rw [HT.out]; unfold V.value; rw [if_pos ⟨rfl, hk⟩]; show Value.tuple #[.string (str (lst val)), _] = _; rw [str_lst]
    have HTF := Aside0.mk hT
    clear hT hk e1 e2 e3
    go_wp2_with (first | (go_at_call 89; (with_reducible refine Calls.mono (number_any val _ hs HV.out) ?_); rintro e w1 ⟨rfl, h⟩; have H1 := Aside0.mk h; clear h))
    go_ret2
    exact ⟨by rw [HTF.out]; rfl, H1.out⟩
  · by_cases h2 : k = 2 ∧ lst key = wRET
    · have hT : T = oRes (V.one (lst val) [wFULL, wHDRS]) := by rw [HT.out]; unfold V.value; rw [if_neg h1, if_pos h2]; rfl
      obtain ⟨rfl, hk⟩ := h2
      have t1 : (key.toList == [83, 73, 90, 69]) = false := by rw [e1, hk]; rfl
      have t2 : (key.toList == [82, 69, 84]) = true := by rw [e2]; exact decide_eq_true hk
      have HTF := Aside0.mk hT
      have HCO := Aside0.mk (one_two wFULL wHDRS ⟨#[70, 85, 76, 76]⟩ ⟨#[72, 68, 82, 83]⟩ rfl rfl (by decide) (by decide) val (by omega))
      clear hT hk e1 e2 e3 h1
      go_wp2_with (first | (go_at_call 73; (with_reducible refine Calls.mono (HCO.out _) ?_); rintro e w1 ⟨rfl, h⟩; have H1 := Aside0.mk h; clear h; unfold oRes at HTF ⊢))
      go_ret2
      exact ⟨by rw [HTF.out]; rfl, H1.out⟩
    · by_cases h3 : k = 3 ∧ lst key = wNOTIFY
      · have hT : T = oRes (V.one (lst val) [wNEVER, wFAILURE]) := by rw [HT.out]; unfold V.value; rw [if_neg h1, if_neg h2, if_pos h3]; rfl
        obtain ⟨rfl, hk⟩ := h3
        have t1 : (key.toList == [78, 79, 84, 73, 70, 89]) = true := by rw [e3]; exact decide_eq_true hk
        have HTF := Aside0.mk hT
        have HCO := Aside0.mk (one_two wNEVER wFAILURE ⟨#[78, 69, 86, 69, 82]⟩ ⟨#[70, 65, 73, 76, 85, 82, 69]⟩ rfl rfl (by decide) (by decide) val (by omega))
        clear hT hk e1 e2 e3 h1 h2
        go_wp2_with (first | (go_at_call 73; (with_reducible refine Calls.mono (HCO.out _) ?_); rintro e w1 ⟨rfl, h⟩; have H1 := Aside0.mk h; clear h; unfold oRes at HTF ⊢))
        go_ret2
        exact ⟨by rw [HTF.out]; rfl, H1.out⟩
      · have hT : T = .tuple #[.string ByteArray.empty, .bool false] := by rw [HT.out]; unfold V.value; rw [if_neg h1, if_neg h2, if_neg h3]; rfl
        have HTF := Aside0.mk hT
        clear hT
        by_cases k2 : k = 2
        · subst k2
          have t1 : (key.toList == [83, 73, 90, 69]) = false := by rw [e1]; exact decide_eq_false (fun h => h1 ⟨rfl, h⟩)
          have t2 : (key.toList == [82, 69, 84]) = false := by rw [e2]; exact decide_eq_false (fun h => h2 ⟨rfl, h⟩)
          clear h1 h2 h3 e1 e2 e3
          go_wp2_with (fail)
          go_ret2
          exact ⟨by rw [HTF.out]; rfl, Below.refl _ _⟩
        · by_cases k3 : k = 3
          · subst k3
            have t1 : (key.toList == [78, 79, 84, 73, 70, 89]) = false := by rw [e3]; exact decide_eq_false (fun h => h3 ⟨rfl, h⟩)
            clear h1 h2 h3 e1 e2 e3
            go_wp2_with (fail)
            go_ret2
            exact ⟨by rw [HTF.out]; rfl, Below.refl _ _⟩
          · have t1 : decide (k = 2) = false := decide_eq_false k2
            have t2 : decide (k = 3) = false := decide_eq_false k3
            have t3 : (k == 2) = false := by simp [k2]
            have t4 : (k == 3) = false := by simp [k3]
            clear h1 h2 h3 e1 e2 e3
            go_wp2_with (fail)
            go_ret2
            exact ⟨by rw [HTF.out]; rfl, Below.refl _ _⟩
end Go.Proofs.YteiknmcmaemcoaaGreatDoor
/- Params: where a key stands among them. -/
namespace Go.Proofs.YteiknmcmaemcoaaGreatDoor
open Go.RowKit Go.Lib
open Go.Proofs.YteiknmcmaemcoaaGreatDoorW.PrintWords
set_option linter.unusedVariables false
set_option linter.unusedSimpArgs false
abbrev Prm := V.Bs × V.Bs
/-- A parameter's two cells. -/
def kp : Kd Prm := Kd.iso (Kd.pair Kd.string Kd.string) (fun x : Prm => (str x.1, str x.2))
theorem kp_open {w : World} {x : Prm} {cs : List Value} (h : kp.K w x cs) : cs = [.string (str x.1), .string (str x.2)] := by
  obtain ⟨_, _, rfl, rfl, rfl⟩ := h
  exact rfl
theorem kp_mk (w : World) (x : Prm) : kp.K w x [.string (str x.1), .string (str x.2)] := ⟨[.string (str x.1)], [.string (str x.2)], rfl, rfl, rfl⟩
theorem kp_mkM (w : World) (base : Nat) (ok : Nat → Prop) (x : Prm) : kp.M w base ok x [.string (str x.1), .string (str x.2)] := ⟨[.string (str x.1)], [.string (str x.2)], rfl, rfl, rfl⟩
theorem kp_at {w : World} {A : Option Addr} {n : Nat} {xs : List Prm} (h : Kd.C kp w A n xs) (i : Nat) (h1 : i < n) (x : Prm) (hx : x = xs.getD i ([], [])) : ∃ ad, A = some ad ∧ w.cell? (ad.add (i * 2)) = some (.string (str x.1)) ∧ w.cell? ⟨(ad.add (i * 2)).block, (ad.add (i * 2)).off + 1, none⟩ = some (.string (str x.2)) := by
  subst hx
  obtain ⟨ad, c, e, _, hK, hc0⟩ := Kd.C_get h ([], []) (i : Int) (by omega) (by omega)
  have e0 : (i : Int).toNat = i := by omega
  rw [e0] at hK hc0
  have hc : ∀ j u, c[j]? = some u → w.cell? (ad.add (i * 2 + j)) = some u := hc0
  obtain rfl := kp_open hK
  exact ⟨ad, e, hc 0 _ rfl, by rw [← add_field _ _ 1 (by omega)]; exact hc 1 _ rfl⟩
/-- The first parameter of a key. -/
def V.pfind (key : V.Bs) (xs : List Prm) (k : Nat) : Option Nat := match xs with
  | [] => none
  | x :: t => if x.1 = key then some k else V.pfind key t (k + 1)
def V.pfindI (key : V.Bs) (xs : List Prm) : Int := match V.pfind key xs 0 with
  | none => -1
  | some k => k
theorem V.pfind_drop (key : V.Bs) (xs : List Prm) : ∀ n, n ≤ xs.length → (∀ j, j < n → ¬ (xs.getD j ([], [])).1 = key) → V.pfind key xs 0 = V.pfind key (xs.drop n) n := by
  intro n
  induction n with
  | zero => intro _ _; rfl
  | succ n ih =>
    intro hn h
    rw [ih (by omega) (fun j hj => h j (by omega))]
    have h2 := h n (by omega)
    rw [List.getD_eq_getElem?_getD, List.getElem?_eq_getElem (by omega)] at h2
    rw [List.drop_eq_getElem_cons (by omega), V.pfind, if_neg (by simpa using h2)]
theorem V.pfind_lt (key : V.Bs) : ∀ (xs : List Prm) (k n : Nat), V.pfind key xs k = some n → k ≤ n ∧ n < k + xs.length
  | [], k, n, h => by simp [V.pfind] at h
  | x :: t, k, n, h => by
    unfold V.pfind at h
    split at h
    · simp at h; subst h; simp
    · have := V.pfind_lt key t (k + 1) n h; simp; omega
theorem V.pfind_any (key : V.Bs) : ∀ (xs : List Prm) (k : Nat), (V.pfind key xs k).isSome = xs.any (fun x => decide (x.1 = key))
  | [], k => rfl
  | x :: t, k => by
    unfold V.pfind
    by_cases h : x.1 = key
    · simp [h]
    · rw [if_neg h, V.pfind_any key t (k + 1)]; simp [h]
theorem Below.cell_on {w w' : World} (h : Below w.heap.size w w') {p : Addr} {v : Value} (hp : w.cell? p = some v) : w'.cell? p = some v :=
  (h.cell (World.block_lt_of_cell? _ _ hp)).trans hp
set_option maxHeartbeats 1000000 in
theorem cl_params (x : Prm) (key : V.Bs) (B : Nat) (w : World) (hc : w.cell? ⟨B, 0, none⟩ = some (.string (str key))) :
    Calls Tryz.prog 76 #[.agg #[.string (str x.1), .string (str x.2)], .pointer (some ⟨B, 0, none⟩)] w fun e w' => e = .returned (.bool (decide (x.1 = key))) ∧ Below w.heap.size w w' := by
  have hB : B < w.heap.size := World.block_lt_of_cell? _ _ hc
  have hne : B ≠ w.heap.size := by omega
  have he : ((str x.1).toList == (str key).toList) = decide (x.1 = key) := by rw [str_eqB, lst_str, lst_str]
  have HE := Aside0.mk he
  clear he
  go_enter Tryz.func76, Tryz.ntmps76
  go_wp2_with (fail)
  go_ret
  refine ⟨?_, (Below.refl _ _).alloc (Nat.le_refl _) _⟩
  rw [← HE.out]
  rfl
set_option maxRecDepth 100000 in
set_option maxHeartbeats 1000000 in
theorem idxp_params (xs : List Prm) (key : V.Bs) (A : Option Addr) (c B : Nat) (w : World) (hx : Kd.C kp w A xs.length xs) (hn : xs.length ≤ 1000000) (hc : w.cell? ⟨B, 0, none⟩ = some (.string (str key))) :
    Calls Tryz.prog 34 #[.slice A xs.length c, .func (.func 76) #[] #[.pointer (some ⟨B, 0, none⟩)]] w fun e w' => e = .returned (.int .i64 (V.pfindI key xs)) ∧ Below w.heap.size w w' := by
  obtain ⟨T, hT⟩ : ∃ T, T = V.pfindI key xs := ⟨_, rfl⟩
  rw [← hT]
  have HT := Aside0.mk hT
  have HX := Aside0.mk hx
  have HC := Aside0.mk hc
  clear hT hx hc
  go_enter Tryz.func34, Tryz.ntmps34
  go_wp2_with (fail)
  go_loopg [8] xs.length (fun g v8 wr => ∃ n : Nat, n ≤ xs.length ∧ g + n = xs.length ∧ v8 = .int .i64 n ∧ Aside0 ((∀ j, j < n → ¬ (xs.getD j ([], [])).1 = key) ∧ Below w.heap.size w wr))
  case atStart => exact ⟨0, by omega, by omega, rfl, ⟨fun j hj => by omega, Below.refl _ _⟩⟩
  case round =>
    obtain ⟨n, hn2, hg, rfl, H⟩ := hrel
    obtain ⟨wx, rfl⟩ : ∃ wz : World, wz = wr := ⟨_, rfl⟩
    by_cases hlt : n < xs.length
    · obtain ⟨x, hx⟩ : ∃ x, x = xs.getD n ([], []) := ⟨_, rfl⟩
      obtain ⟨ad, rfl, hc0, hc1⟩ := kp_at HX.out n hlt x hx
      have c0 := Below.cell_on H.out.2 hc0
      have c1 := Below.cell_on H.out.2 hc1
      have hkey := Below.cell_on H.out.2 HC.out
      have hlt' : (n : Int) < (xs.length : Int) := by omega
      have h0 : (0 : Int) ≤ (n : Int) := by omega
      have Hparams := Aside0.mk hx
      have HK := Aside0.mk hkey
      clear hx hkey hc0 hc1
      by_cases hp : x.1 = key
      · have hT : T = n := by
          rw [HT.out]
          unfold V.pfindI
          rw [V.pfind_drop key xs n hn2 H.out.1, List.drop_eq_getElem_cons hlt, V.pfind, if_pos]
          rw [← hp, Hparams.out, List.getD_eq_getElem?_getD, List.getElem?_eq_getElem hlt]; rfl
        have HTF := Aside0.mk hT
        have HP := Aside0.mk hp
        clear hT hp
        go_wp2_with (first | (go_at_call 76; (with_reducible refine Calls.mono (cl_params x key B wx HK.out) ?_); rintro e w1 ⟨rfl, h⟩; have H1 := Aside0.mk h; clear h; rw [decide_eq_true HP.out]))
        go_ret
        exact ⟨by rw [HTF.out]; rfl, H.out.2.trans (H1.out.mono H.out.2.size)⟩
      · have HP := Aside0.mk hp
        clear hp
        go_wp2_with (first | (go_at_call 76; (with_reducible refine Calls.mono (cl_params x key B wx HK.out) ?_); rintro e w1 ⟨rfl, h⟩; have H1 := Aside0.mk h; clear h; rw [decide_eq_false HP.out]))
        go_roundg (gk - 1)
        case measure => omega
        case rel =>
          refine ⟨n + 1, by omega, by omega, by go_num, ⟨fun j hj => ?_, H.out.2.trans (H1.out.mono H.out.2.size)⟩⟩
          by_cases hjn : j = n
          · subst hjn
            rw [← Hparams.out]
            exact HP.out
          · exact H.out.1 j (by omega)
    · have hne : n = xs.length := by omega
      have hT : T = -1 := by
        rw [HT.out]
        unfold V.pfindI
        rw [V.pfind_drop key xs n hn2 H.out.1, hne, List.drop_length]
        rfl
      have HTF := Aside0.mk hT
      have t1 : decide ((n : Int) < (xs.length : Int)) = false := by simp; omega
      have t2 : decide (n < xs.length) = false := by simp; omega
      clear hT hne
      go_wp2_with (fail)
      go_ret
      exact ⟨by rw [HTF.out]; rfl, H.out.2⟩
set_option maxHeartbeats 1000000 in
theorem cl_param (x : Prm) (key : V.Bs) (B : Nat) (w : World) (hc : w.cell? ⟨B, 0, none⟩ = some (.string (str key))) :
    Calls Tryz.prog 35 #[.agg #[.string (str x.1), .string (str x.2)], .pointer (some ⟨B, 0, none⟩)] w fun e w' => e = .returned (.bool (decide (x.1 = key))) ∧ Below w.heap.size w w' := by
  have hB : B < w.heap.size := World.block_lt_of_cell? _ _ hc
  have hne : B ≠ w.heap.size := by omega
  have he : ((str x.1).toList == (str key).toList) = decide (x.1 = key) := by rw [str_eqB, lst_str, lst_str]
  have HE := Aside0.mk he
  clear he
  go_enter Tryz.func35, Tryz.ntmps35
  go_wp2_with (fail)
  go_ret
  refine ⟨?_, (Below.refl _ _).alloc (Nat.le_refl _) _⟩
  rw [← HE.out]
  rfl
set_option maxRecDepth 100000 in
set_option maxHeartbeats 1000000 in
theorem idxp_param (xs : List Prm) (key : V.Bs) (A : Option Addr) (c B : Nat) (w : World) (hx : Kd.C kp w A xs.length xs) (hn : xs.length ≤ 1000000) (hc : w.cell? ⟨B, 0, none⟩ = some (.string (str key))) :
    Calls Tryz.prog 34 #[.slice A xs.length c, .func (.func 35) #[] #[.pointer (some ⟨B, 0, none⟩)]] w fun e w' => e = .returned (.int .i64 (V.pfindI key xs)) ∧ Below w.heap.size w w' := by
  obtain ⟨T, hT⟩ : ∃ T, T = V.pfindI key xs := ⟨_, rfl⟩
  rw [← hT]
  have HT := Aside0.mk hT
  have HX := Aside0.mk hx
  have HC := Aside0.mk hc
  clear hT hx hc
  go_enter Tryz.func34, Tryz.ntmps34
  go_wp2_with (fail)
  go_loopg [8] xs.length (fun g v8 wr => ∃ n : Nat, n ≤ xs.length ∧ g + n = xs.length ∧ v8 = .int .i64 n ∧ Aside0 ((∀ j, j < n → ¬ (xs.getD j ([], [])).1 = key) ∧ Below w.heap.size w wr))
  case atStart => exact ⟨0, by omega, by omega, rfl, ⟨fun j hj => by omega, Below.refl _ _⟩⟩
  case round =>
    obtain ⟨n, hn2, hg, rfl, H⟩ := hrel
    obtain ⟨wx, rfl⟩ : ∃ wz : World, wz = wr := ⟨_, rfl⟩
    by_cases hlt : n < xs.length
    · obtain ⟨x, hx⟩ : ∃ x, x = xs.getD n ([], []) := ⟨_, rfl⟩
      obtain ⟨ad, rfl, hc0, hc1⟩ := kp_at HX.out n hlt x hx
      have c0 := Below.cell_on H.out.2 hc0
      have c1 := Below.cell_on H.out.2 hc1
      have hkey := Below.cell_on H.out.2 HC.out
      have hlt' : (n : Int) < (xs.length : Int) := by omega
      have h0 : (0 : Int) ≤ (n : Int) := by omega
      have Hparam := Aside0.mk hx
      have HK := Aside0.mk hkey
      clear hx hkey hc0 hc1
      by_cases hp : x.1 = key
      · have hT : T = n := by
          rw [HT.out]
          unfold V.pfindI
          rw [V.pfind_drop key xs n hn2 H.out.1, List.drop_eq_getElem_cons hlt, V.pfind, if_pos]
          rw [← hp, Hparam.out, List.getD_eq_getElem?_getD, List.getElem?_eq_getElem hlt]; rfl
        have HTF := Aside0.mk hT
        have HP := Aside0.mk hp
        clear hT hp
        go_wp2_with (first | (go_at_call 35; (with_reducible refine Calls.mono (cl_param x key B wx HK.out) ?_); rintro e w1 ⟨rfl, h⟩; have H1 := Aside0.mk h; clear h; rw [decide_eq_true HP.out]))
        go_ret
        exact ⟨by rw [HTF.out]; rfl, H.out.2.trans (H1.out.mono H.out.2.size)⟩
      · have HP := Aside0.mk hp
        clear hp
        go_wp2_with (first | (go_at_call 35; (with_reducible refine Calls.mono (cl_param x key B wx HK.out) ?_); rintro e w1 ⟨rfl, h⟩; have H1 := Aside0.mk h; clear h; rw [decide_eq_false HP.out]))
        go_roundg (gk - 1)
        case measure => omega
        case rel =>
          refine ⟨n + 1, by omega, by omega, by go_num, ⟨fun j hj => ?_, H.out.2.trans (H1.out.mono H.out.2.size)⟩⟩
          by_cases hjn : j = n
          · subst hjn
            rw [← Hparam.out]
            exact HP.out
          · exact H.out.1 j (by omega)
    · have hne : n = xs.length := by omega
      have hT : T = -1 := by
        rw [HT.out]
        unfold V.pfindI
        rw [V.pfind_drop key xs n hn2 H.out.1, hne, List.drop_length]
        rfl
      have HTF := Aside0.mk hT
      have t1 : decide ((n : Int) < (xs.length : Int)) = false := by simp; omega
      have t2 : decide (n < xs.length) = false := by simp; omega
      clear hT hne
      go_wp2_with (fail)
      go_ret
      exact ⟨by rw [HTF.out]; rfl, H.out.2⟩
set_option maxHeartbeats 1000000 in
theorem twice_any (xs : List Prm) (key : V.Bs) (A : Option Addr) (c B : Nat) (w : World) (hx : Kd.C kp w A xs.length xs) (hn : xs.length ≤ 1000000) (hc : w.cell? ⟨B, 0, none⟩ = some (.string (str key))) :
    Calls Tryz.prog 75 #[.slice A xs.length c, .func (.func 76) #[] #[.pointer (some ⟨B, 0, none⟩)]] w fun e w' => e = .returned (.bool (xs.any (fun x => decide (x.1 = key)))) ∧ Below w.heap.size w w' := by
  obtain ⟨T, hT⟩ : ∃ T, T = xs.any (fun x => decide (x.1 = key)) := ⟨_, rfl⟩
  rw [← hT]
  rw [← V.pfind_any key xs 0] at hT
  have hcon := idxp_params xs key A c B w hx hn hc
  obtain ⟨i, hi⟩ : ∃ i, i = V.pfindI key xs := ⟨_, rfl⟩
  rw [← hi] at hcon
  have hT2 : T = decide (i ≥ 0) := by
    rw [hT, hi]
    unfold V.pfindI
    cases V.pfind key xs 0 <;> simp
  have HT := Aside0.mk hT2
  have HC := Aside0.mk hcon
  clear hT hT2 hi hcon hx hc
  go_enter Tryz.func75, Tryz.ntmps75
  go_wp2_with (first | (go_at_call 34; (with_reducible refine Calls.mono HC.out ?_); rintro e w1 ⟨rfl, h⟩; have H1 := Aside0.mk h; clear h))
  go_ret
  exact ⟨by rw [HT.out]; rfl, H1.out⟩
end Go.Proofs.YteiknmcmaemcoaaGreatDoor
/- What verb's params answers. -/
namespace Go.Proofs.YteiknmcmaemcoaaGreatDoor
open Go.RowKit Go.Lib
open Go.Proofs.YteiknmcmaemcoaaGreatDoorW.PrintWords
set_option linter.unusedVariables false
set_option linter.unusedSimpArgs false
/-- What stands ahead of the first =, and behind it; whether there is one. -/
def V.eqs (x : V.Bs) : V.Bs × V.Bs × Bool := match V.cutAt 61 x with
  | none => (x, [], false)
  | some (a, b) => (a, b, true)
def keyWords : List V.Bs := [wSIZE, wRET, wNOTIFY]
/-- One parameter more. -/
def V.pstep (k : Int) (x : V.Bs) (acc : List Prm) : Option (List Prm) :=
  let c := V.eqs x
  let o := V.one c.1 keyWords
  let v := V.value k (o.getD []) c.2.1
  if c.2.2 && o.isSome && v.2 && !acc.any (fun y => decide (y.1 = o.getD [])) then some (acc ++ [(o.getD [], v.1)]) else none
def V.params (k : Int) : List V.Bs → List Prm → Option (List Prm)
  | [], acc => some acc
  | x :: ws, acc => match V.pstep k x acc with
    | none => none
    | some acc' => V.params k ws acc'
theorem V.params_drop (k : Int) (ws : List V.Bs) (n : Nat) (hn : n < ws.length) (x : V.Bs) (hx : x = ws.getD n []) (acc : List Prm) : V.params k (ws.drop n) acc = match V.pstep k x acc with | none => none | some acc' => V.params k (ws.drop (n + 1)) acc' := by
  have e : ws.drop n = x :: ws.drop (n + 1) := by
    rw [List.drop_eq_getElem_cons hn, hx, List.getD_eq_getElem?_getD, List.getElem?_eq_getElem hn]; rfl
  rw [e, V.params]
theorem eqs_cut (x : V.Bs) : Lib.cut x [61] = V.eqs x := by
  rw [V.cut_one]
  unfold V.eqs
  cases V.cutAt 61 x with
  | none => rfl
  | some ab => rfl
theorem eqs_length (x : V.Bs) : (V.eqs x).1.length ≤ x.length ∧ (V.eqs x).2.1.length ≤ x.length := by
  unfold V.eqs
  cases h : V.cutAt 61 x with
  | none => simp
  | some ab =>
    obtain ⟨a, b⟩ := ab
    obtain ⟨h1, _⟩ := V.cutAt_some h
    have := congrArg List.length h1
    simp at this ⊢
    omega
theorem infoP : (Tryz.prog.info? 47).map (fun i => (i.zero, i.size, i.bytes)) = some (some (.agg #[.string ⟨#[]⟩, .string ⟨#[]⟩]), 2, 32) := by kernel_rfl
theorem cut_at (x : V.Bs) (hx : x.length ≤ 100000) (w : World) (hv : Vars w) :
    Calls Tryz.prog 18 #[.string (str x), .string ⟨#[61]⟩] w fun e w' => e = .returned (.tuple #[.string (str (V.eqs x).1), .string (str (V.eqs x).2.1), .bool (V.eqs x).2.2]) ∧ Below w.heap.size w w' := by
  obtain ⟨m, hm⟩ := hv.mx
  refine (Tryz.strings_Cut (str x) ⟨#[61]⟩ m w (by rw [str_size]; omega) hm).mono ?_
  rintro e w' ⟨rfl, q, rfl⟩
  refine ⟨?_, below_drewN' (Below.refl _ _) q⟩
  have e0 : (str x).data.toList = x := lst_str x
  have e1 : (⟨#[61]⟩ : ByteArray).data.toList = [61] := rfl
  rw [e0, e1, eqs_cut]
  rfl
theorem four_cases : ∀ (a b c d : Bool), ¬ (a = true ∧ b = true ∧ c = true ∧ d = false) → a = false ∨ (a = true ∧ b = false) ∨ (a = true ∧ b = true ∧ c = false) ∨ (a = true ∧ b = true ∧ c = true ∧ d = true) := by decide
def parPost (T : Option (List Prm)) (B N : Nat) (e : Ending) (w' : World) : Prop := match T with
  | none => e = .returned (.tuple #[noSl, .bool false])
  | some xs => ∃ v, e = .returned (.tuple #[v, .bool true]) ∧ kp.R 47 w' B (fun _ => True) v xs ∧ xs.length ≤ N
set_option maxRecDepth 100000 in
set_option maxHeartbeats 4000000 in
theorem params_any (k : Int) (ws : List V.Bs) (hws : ∀ x ∈ ws, x.length ≤ 100000) (hn : ws.length ≤ 100000) (b off c : Nat) (w : World) (hv : Vars w)
    (hb : ∀ j, j < ws.length → w.cell? ⟨b, off + j, none⟩ = some (.string (str (ws.getD j [])))) :
    Calls Tryz.prog 58 #[.int .i64 k, .slice (some ⟨b, off, none⟩) ws.length c] w fun e w' => parPost (V.params k ws []) w.heap.size ws.length e w' ∧ Below w.heap.size w w' := by
  obtain ⟨T, hT⟩ : ∃ T, T = V.params k ws [] := ⟨_, rfl⟩
  rw [← hT]
  have HT := Aside0.mk hT
  have HB := Aside0.mk hb
  have HV := Aside0.mk hv
  clear hT hb hv
  go_enter Tryz.func58, Tryz.ntmps58
  go_wp2_with (fail)
  go_loopg [6, 18] ws.length (fun g v6 v18 wr => ∃ (n : Nat) (xs : List Prm), n ≤ ws.length ∧ g + n = ws.length ∧ v18 = .int .i64 n ∧ Aside0 (V.params k (ws.drop n) xs = T ∧ xs.length ≤ n ∧ kp.R 47 wr w.heap.size (fun _ => True) v6 xs ∧ Below w.heap.size w wr))
  case atStart => exact ⟨0, [], by omega, by omega, rfl, ⟨HT.out.symm, by simp, Kd.R_nil _ _ _ _ _, Below.refl _ _⟩⟩
  case round =>
    obtain ⟨n, xs, hn2, hg, rfl, H⟩ := hrel
    obtain ⟨wx, rfl⟩ : ∃ wz : World, wz = wr := ⟨_, rfl⟩
    by_cases hlt : n < ws.length
    · obtain ⟨x, hx⟩ : ∃ x, x = ws.getD n [] := ⟨_, rfl⟩
      have hxl : x.length ≤ 100000 := by
        rw [hx, List.getD_eq_getElem?_getD, List.getElem?_eq_getElem hlt]; exact hws _ (List.getElem_mem hlt)
      have hcell := Below.cell_on H.out.2.2.2 (HB.out n hlt)
      rw [← hx] at hcell
      have hstep := V.params_drop k ws n hlt x hx xs
      rw [H.out.1] at hstep
      obtain ⟨A, cc, hv6, hcc, hC⟩ := Kd.R_reads H.out.2.2.1
      subst hv6
      obtain ⟨ea, eb, ec, hE⟩ : ∃ ea eb ec, V.eqs x = (ea, eb, ec) := ⟨_, _, _, rfl⟩
      have hel0 := eqs_length x
      rw [hE] at hel0
      have hel : ea.length ≤ 100000 ∧ eb.length ≤ 100000 := ⟨Nat.le_trans hel0.1 hxl, Nat.le_trans hel0.2 hxl⟩
      have hcut := fun w hv => cut_at x hxl w hv
      rw [hE] at hcut
      have hlt' : (n : Int) < (ws.length : Int) := by omega
      have h0 : (0 : Int) ≤ (n : Int) := by omega
      have HCU := Aside0.mk hcut
      have HEL := Aside0.mk hel
      have HE := Aside0.mk hE
      have HS := Aside0.mk hstep
      have HCC := Aside0.mk hcc
      have HRC := Aside0.mk hC
      have HVX := Aside0.mk (HV.out.go H.out.2.2.2)
      clear hx hcut hel hel0 hE hstep hcc hC hws
      go_upto_region 6 with (first | (go_at_call 18; (with_reducible refine Calls.mono (HCU.out _ HVX.out) ?_); rintro e w1 ⟨rfl, h⟩; have H1 := Aside0.mk h; clear h))
      obtain ⟨o, ho⟩ : ∃ o, o = V.one ea keyWords := ⟨_, rfl⟩
      have HON := Aside0.mk (one_three wSIZE wRET wNOTIFY ⟨#[83, 73, 90, 69]⟩ ⟨#[82, 69, 84]⟩ ⟨#[78, 79, 84, 73, 70, 89]⟩ rfl rfl rfl (by decide) (by decide) (by decide) (str ea) (by rw [str_size]; have := HEL.out.1; omega) w1)
      have HO := Aside0.mk ho
      clear ho
      go_upto_region 7 with (first | (go_at_call 73; (with_reducible refine Calls.mono HON.out ?_); rintro e w2 ⟨rfl, h⟩; have H2 := Aside0.mk h; clear h; unfold oRes; rw [lst_str]; rw [show [wSIZE, wRET, wNOTIFY] = keyWords from rfl, ← HO.out]))
      obtain ⟨nm, hnm⟩ : ∃ nm, nm = o.getD [] := ⟨_, rfl⟩
      rw [← hnm]
      obtain ⟨W2, hW2⟩ : ∃ W2, W2 = w2.alloc (.cells #[.string (str nm)] 9) := ⟨_, rfl⟩
      rw [← hW2]
      obtain ⟨G, hG⟩ : ∃ G, G = w2.heap.size := ⟨_, rfl⟩
      rw [← hG]
      have hnc : W2.cell? ⟨G, 0, none⟩ = some (.string (str nm)) := by rw [hW2, hG]; simp
      have hb2 : Below wx.heap.size wx W2 := by
        rw [hW2]
        exact (H1.out.trans (H2.out.mono H1.out.size)).alloc (Nat.le_trans H1.out.size H2.out.size) _
      obtain ⟨vv, vr, hval⟩ : ∃ vv vr, V.value k nm eb = (vv, vr) := ⟨_, _, rfl⟩
      have hcv : ∀ w, Vars w → Calls Tryz.prog 74 #[.int .i64 k, .string (str nm), .string (str eb)] w fun e w' => e = .returned (.tuple #[.string (str vv), .bool vr]) ∧ Below w.heap.size w w' := by
        intro w hv
        have h := value_any k (str nm) (str eb) w (by rw [str_size]; exact HEL.out.2) hv
        rw [lst_str, lst_str, hval] at h
        exact h
      have HCV := Aside0.mk hcv
      have HB2 := Aside0.mk hb2
      have HNC := Aside0.mk hnc
      have HNM := Aside0.mk hnm
      have HVL := Aside0.mk hval
      have HVX2 := Aside0.mk (HVX.out.go hb2)
      clear hW2 hG hcv hb2 hval hnm H1 H2 HON HCU
      go_upto_region 8 with (first | (go_at_call 74; (with_reducible refine Calls.mono (HCV.out _ HVX2.out) ?_); rintro e w3 ⟨rfl, h⟩; have H3 := Aside0.mk h; clear h))
      have HC3 := Aside0.mk (Kd.C_below (Kd.C_below HRC.out HB2.out) H3.out)
      have HNC3 := Aside0.mk (Below.cell_on H3.out HNC.out)
      obtain ⟨tw, htw⟩ : ∃ tw, tw = xs.any (fun y => decide (y.1 = nm)) := ⟨_, rfl⟩
      have htc := twice_any xs nm A cc G w3 HC3.out (by have := H.out.2.1; omega) HNC3.out
      rw [← htw] at htc
      have HTC := Aside0.mk htc
      have HTW := Aside0.mk htw
      clear htc htw hnc
      go_upto_region 9 with (first | (go_at_call 75; (with_reducible refine Calls.mono HTC.out ?_); rintro e w4 ⟨rfl, h⟩; have H4 := Aside0.mk h; clear h))
      have hb4 : Below wx.heap.size wx w4 := (HB2.out.trans (H3.out.mono HB2.out.size)).trans (H4.out.mono (Nat.le_trans HB2.out.size H3.out.size))
      have hbw4 : Below w.heap.size w w4 := H.out.2.2.2.trans (hb4.mono H.out.2.2.2.size)
      have hR4 := Kd.R_below H.out.2.2.1 hb4
      have hnc4 := Below.cell_on H4.out HNC3.out
      have hst : V.pstep k x xs = if ec && o.isSome && vr && !tw then some (xs ++ [(nm, vv)]) else none := by
        unfold V.pstep
        rw [HE.out]
        simp only
        rw [← HO.out, ← HNM.out, HVL.out, ← HTW.out]
      have HST := Aside0.mk hst
      have HB4 := Aside0.mk hbw4
      have HR4 := Aside0.mk hR4
      clear hst hb4 hbw4 hR4
      by_cases hall : ec = true ∧ o.isSome = true ∧ vr = true ∧ tw = false
      · obtain ⟨rfl, ho1, rfl, rfl⟩ := hall
        have hT : V.params k (ws.drop (n + 1)) (xs ++ [(nm, vv)]) = T := by
          rw [HS.out, HST.out, ho1]
          rfl
        have HTT := Aside0.mk hT
        rw [ho1]
        clear hT ho1
        go_wp2_with (first | ((with_reducible refine gate_builtin (b := .append) (xs := #[.tmp 57, .tmp 61]) rfl ?_); at_builtin; refine Kd.R_append kp (w0 := w) w.heap.size rfl (.tmp 57) (.tmp 61) 24 47 (.agg #[.string ⟨#[]⟩, .string ⟨#[]⟩]) 32 rfl Tryz.underlying24 infoP rfl (by decide) (by omega) (.slice A xs.length cc) xs (nm, vv) [.string (str nm), .string (str vv)] (fun _ => True) (fun _ => False) rfl rfl (kp_mkM _ _ _ (nm, vv)) (fun _ hk => hk.elim) (fun _ _ => trivial) HR4.out HB4.out HB4.out.size (by have := H.out.2.1; omega) ?_; intro v1 w5 hR5 hB5 hg5 hat5; have HR5 := Aside0.mk hR5; have HB5 := Aside0.mk hB5; clear hR5 hB5 hg5 hat5))
        go_roundg (gk - 1)
        case measure => omega
        case rel =>
          exact ⟨n + 1, xs ++ [(nm, vv)], by omega, by omega, by go_num, ⟨HTT.out, by have := H.out.2.1; simp; omega, HR5.out, HB5.out⟩⟩
      · have hT : T = none := by
          rw [HS.out, HST.out, if_neg]
          intro h
          simp only [Bool.and_eq_true, Bool.not_eq_true'] at h
          exact hall ⟨h.1.1.1, h.1.1.2, h.1.2, h.2⟩
        have hcases := four_cases _ _ _ _ hall
        have HTT := Aside0.mk hT
        clear hT hall
        rcases hcases with rfl | ⟨rfl, ho1⟩ | ⟨rfl, ho1, rfl⟩ | ⟨rfl, ho1, rfl, rfl⟩
        · go_wp2_with (fail)
          go_ret2
          exact ⟨by rw [HTT.out]; rfl, HB4.out⟩
        · rw [ho1]
          clear ho1
          go_wp2_with (fail)
          go_ret2
          exact ⟨by rw [HTT.out]; rfl, HB4.out⟩
        · rw [ho1]
          clear ho1
          go_wp2_with (fail)
          go_ret2
          exact ⟨by rw [HTT.out]; rfl, HB4.out⟩
        · rw [ho1]
          clear ho1
          go_wp2_with (fail)
          go_ret2
          exact ⟨by rw [HTT.out]; rfl, HB4.out⟩
    · have hne : n = ws.length := by omega
      have hT : T = some xs := by rw [← H.out.1, hne, List.drop_length]; rfl
      have HTT := Aside0.mk hT
      have t1 : decide ((n : Int) < (ws.length : Int)) = false := by simp; omega
      have t2 : decide (n < ws.length) = false := by simp; omega
      clear hT hne
      go_wp2_with (fail)
      go_ret2
      refine ⟨?_, H.out.2.2.2⟩
      rw [HTT.out]
      exact ⟨_, rfl, H.out.2.2.1, by have := H.out.2.1; omega⟩
end Go.Proofs.YteiknmcmaemcoaaGreatDoor
/- What verb's mailbox answers. -/
namespace Go.Proofs.YteiknmcmaemcoaaGreatDoor
open Go.RowKit Go.Lib
open Go.Proofs.YteiknmcmaemcoaaGreatDoorW.PrintWords
set_option linter.unusedVariables false
set_option linter.unusedSimpArgs false
theorem kpR_on {w4 w5 : World} {B : Nat} {v : Value} {xs : List Prm} {ok : Nat → Prop} (h : kp.R 47 w4 B ok v xs) (hm : ∀ k, B ≤ k → w5.heap[k]? = w4.heap[k]?) : kp.R 47 w5 B (fun _ => True) v xs :=
  Kd.R_mono (Kd.R_step (Kd.R_bound h) (fun k hk _ => hm k hk.2.1)) (fun _ _ => trivial)
theorem set6_other {w : World} {g k : Nat} (h : k ≠ g) {a0 a1 a2 a3 a4 a5 : Value} : ((((((w.setCell ⟨g, 0, none⟩ a0).setCell ⟨g, 1, none⟩ a1).setCell ⟨g, 2, none⟩ a2).setCell ⟨g, 3, none⟩ a3).setCell ⟨g, 4, none⟩ a4).setCell ⟨g, 5, none⟩ a5).heap[k]? = w.heap[k]? := by
  rw [Below.heap_setCell _ ⟨g, 5, none⟩ a5 k h, Below.heap_setCell _ ⟨g, 4, none⟩ a4 k h, Below.heap_setCell _ ⟨g, 3, none⟩ a3 k h, Below.heap_setCell _ ⟨g, 2, none⟩ a2 k h, Below.heap_setCell _ ⟨g, 1, none⟩ a1 k h, Below.heap_setCell _ ⟨g, 0, none⟩ a0 k h]
/-- A command. -/
structure V.Cmd where
  kind : Int
  text : V.Bs
  path : V.Path
  prms : List Prm
deriving DecidableEq
def V.noCmd : V.Cmd := ⟨0, [], V.noPath, []⟩
/-- A command's value, its params' slice told. -/
def cval (c : V.Cmd) (sl : Value) : Value := .agg (cv c.kind (str c.text) c.path.null (str c.path.loc) (str c.path.dom) sl)
/-- What a call leaves that answers a command or none, with a mark. -/
def cmdPost (T : Option V.Cmd) (yes no : Value) (B : Nat) (e : Ending) (w' : World) : Prop := match T with
  | none => e = .returned (.tuple #[cval V.noCmd noSl, no])
  | some c => ∃ v, e = .returned (.tuple #[cval c v, yes]) ∧ kp.R 47 w' B (fun _ => True) v c.prms ∧ c.prms.length ≤ 100000
def V.mbox (k : Int) : Option V.Path → Option (List Prm) → Option V.Cmd
  | some p, some ps => if k = 3 ∧ p.null = true then none else some ⟨k, [], p, ps⟩
  | _, _ => none
def V.mailbox (k : Int) (l : V.Bs) : Option V.Cmd := V.mbox k (V.pparse ((V.splitOn 32 l).headD [])) (V.params k (V.splitOn 32 l).tail [])
theorem slice_one (b N : Nat) (h : 1 ≤ N) (off m : Nat) (ho : off = if N = 1 then 0 else 1) (hm : m = N - 1) (w : World) : (Instr.slice 43 (.slice (some ⟨b, 0, none⟩) N N) (some (.int .i64 1)) none none).run Tryz.prog w = .ok (.slice (some ⟨b, off, none⟩) m m) w := by
  subst ho hm
  rw [run_slice_l w 43 (some ⟨b, 0, none⟩) N N (by kernel_rfl) .i64 1 (by decide) (by omega)]
  rw [show Tryz.prog.elem 43 = 9 by kernel_rfl, Tryz.sizeOf9 w]
  by_cases h1 : N = 1
  · subst h1; simp [sliced, Result.andThen]
  · simp [sliced, Result.andThen, h1, Addr.add]
set_option maxRecDepth 100000 in
set_option maxHeartbeats 4000000 in
theorem mailbox_any (k : Int) (s : ByteArray) (w : World) (hs : s.size ≤ 10000) (hv : Vars w) :
    Calls Tryz.prog 42 #[.int .i64 k, .string s] w fun e w' => cmdPost (V.mailbox k (lst s)) (.bool true) (.bool false) w.heap.size e w' ∧ Below w.heap.size w w' := by
  obtain ⟨T, hT⟩ : ∃ T, T = V.mailbox k (lst s) := ⟨_, rfl⟩
  rw [← hT]
  have HT := Aside0.mk hT
  clear hT
  obtain ⟨ws, hws⟩ : ∃ ws, ws = V.splitOn 32 (lst s) := ⟨_, rfl⟩
  obtain ⟨wR, hwR⟩ : ∃ wR, wR = w.alloc (.cells #[.int .i64 0, .string { data := #[] }, .bool false, .string { data := #[] }, .string { data := #[] }, .slice none 0 0] 26) := ⟨_, rfl⟩
  have hbR : Below w.heap.size w wR := by rw [hwR]; exact (Below.refl _ w).alloc (Nat.le_refl _) _
  have hrow : wR.heap[w.heap.size]? = some (.cells #[.int .i64 0, .string { data := #[] }, .bool false, .string { data := #[] }, .string { data := #[] }, .slice none 0 0] 26 (0, 0)) := by rw [hwR]; exact heap_alloc_new _ _
  have hsz : wR.heap.size = w.heap.size + 1 := by rw [hwR]; simp
  have hlen : 1 ≤ ws.length := by
    rw [hws]
    cases h : V.splitOn 32 (lst s) with
    | nil => exact absurd h (V.splitOn_ne _ _)
    | cons a t => simp
  have hle : ws.length ≤ 10001 := by rw [hws]; have := splitOn_length 32 (lst s); rw [lst_length] at this; omega
  have hel : ∀ x ∈ ws, x.length ≤ 10000 := by intro x hx; rw [hws] at hx; have := splitOn_mem 32 _ _ hx; rw [lst_length] at this; omega
  have HVR := Aside0.mk (hv.go hbR)
  have HSP := Aside0.mk (split_any s 32 wR (by omega) HVR.out ⟨#[32]⟩ rfl)
  rw [← hws] at HSP
  have HBR := Aside0.mk hbR
  have HROW := Aside0.mk hrow
  have HSZ := Aside0.mk hsz
  have HWS := Aside0.mk hws
  have HEL := Aside0.mk hel
  clear hbR hrow hsz hws hel hv
  go_enter Tryz.func42, Tryz.ntmps42
  go_upto_region 1 with (fail)
  rw [← hwR]
  clear hwR
  go_upto_region 2 with (first | (go_at_call 21; (with_reducible refine Calls.mono HSP.out ?_); rintro e w1 ⟨n, hn, rfl, hw1⟩; have HN := Aside0.mk hn; have HW1 := Aside0.mk hw1; clear hn hw1))
  have hnl : n = ws.length := HN.out
  subst hnl
  obtain ⟨b, hbe⟩ : ∃ b, b = wR.heap.size := ⟨_, rfl⟩
  rw [← hbe]
  have hcells : ∀ j, j < ws.length → w1.cell? ⟨b, j, none⟩ = some (.string (str (ws.getD j []))) := by
    intro j hj
    rw [hbe, cell_of_row w1 wR.heap.size _ _ _ _ (by rw [HW1.out]; exact heap_alloc_new _ _), List.getElem?_toArray, List.getElem?_map, List.getElem?_eq_getElem hj, List.getD_eq_getElem?_getD, List.getElem?_eq_getElem hj]
    rfl
  have hb1 : Below wR.heap.size wR w1 := by rw [HW1.out]; exact (Below.refl _ _).alloc (Nat.le_refl _) _
  obtain ⟨x0, hx0⟩ : ∃ x0, x0 = ws.getD 0 [] := ⟨_, rfl⟩
  have hc0 := hcells 0 hlen
  rw [← hx0] at hc0
  have hx0l : x0.length ≤ 10000 := by
    rw [hx0, List.getD_eq_getElem?_getD, List.getElem?_eq_getElem hlen]; exact HEL.out _ (List.getElem_mem hlen)
  obtain ⟨po, hpo⟩ : ∃ po, po = V.pparse x0 := ⟨_, rfl⟩
  obtain ⟨pn, hpn⟩ : ∃ pn, pn = (po.getD V.noPath).null := ⟨_, rfl⟩
  obtain ⟨pl, hpl⟩ : ∃ pl, pl = str (po.getD V.noPath).loc := ⟨_, rfl⟩
  obtain ⟨pd, hpd⟩ : ∃ pd, pd = str (po.getD V.noPath).dom := ⟨_, rfl⟩
  obtain ⟨er, her⟩ : ∃ er, er = errOf po.isSome := ⟨_, rfl⟩
  have hpp : ∀ w, Vars w → Calls Tryz.prog 57 #[.string (str x0)] w fun e w' => e = .returned (.tuple #[.agg #[.bool pn, .string pl, .string pd], .int .i64 er]) ∧ Below w.heap.size w w' := by
    intro w hv
    have h := pparse_any (str x0) w (by rw [str_size]; omega) hv
    rw [lst_str, ← hpo] at h
    unfold pres pval at h
    rw [← hpn, ← hpl, ← hpd, ← her] at h
    exact h
  have HPP := Aside0.mk hpp
  have HV1 := Aside0.mk (HVR.out.go hb1)
  have HB1 := Aside0.mk hb1
  have HCE := Aside0.mk hcells
  have HP := Aside0.mk (And.intro hpo (And.intro hpn (And.intro hpl (And.intro hpd her))))
  have HX0 := Aside0.mk hx0
  have HBE := Aside0.mk hbe
  have hlen' : (1 : Int) ≤ (ws.length : Int) := by omega
  have hlen2 : (0 : Int) < (ws.length : Int) := by omega
  clear hbe hcells hb1 hx0 hpo hpn hpl hpd her hpp
  go_upto_region 3 with (first | (go_at_call 57; (with_reducible refine Calls.mono (HPP.out _ HV1.out) ?_); rintro e w2 ⟨rfl, h⟩; have H2 := Aside0.mk h; clear h))
  obtain ⟨tl, htl⟩ : ∃ tl, tl = ws.tail := ⟨_, rfl⟩
  obtain ⟨off, hoff⟩ : ∃ off, off = if ws.length = 1 then 0 else 1 := ⟨_, rfl⟩
  have hsl := slice_one b ws.length hlen off tl.length hoff (by rw [htl, List.length_tail])
  have htc : ∀ j, j < tl.length → w1.cell? ⟨b, off + j, none⟩ = some (.string (str (tl.getD j []))) := by
    intro j hj
    rw [htl, List.length_tail] at hj
    have e : off = 1 := by rw [hoff, if_neg (by omega)]
    have h := HCE.out (j + 1) (by omega)
    rw [e, htl]
    rw [show 1 + j = j + 1 by omega, h]
    cases hw : ws with
    | nil => rw [hw] at hlen; simp at hlen
    | cons a t => rfl
  obtain ⟨W3, hW3⟩ : ∃ W3, W3 = w2.alloc (.cells #[.bool pn, .string pl, .string pd] 23) := ⟨_, rfl⟩
  rw [← hW3]
  obtain ⟨G, hG⟩ : ∃ G, G = w2.heap.size := ⟨_, rfl⟩
  rw [← hG]
  have hr3 : W3.heap[G]? = some (.cells #[.bool pn, .string pl, .string pd] 23 (0, 0)) := by rw [hW3, hG]; exact heap_alloc_new _ _
  have hb13 : Below w1.heap.size w1 W3 := by rw [hW3]; exact H2.out.alloc H2.out.size _
  have hb3 : Below wR.heap.size wR W3 := HB1.out.trans (hb13.mono HB1.out.size)
  obtain ⟨px, hpx⟩ : ∃ px, px = V.params k tl [] := ⟨_, rfl⟩
  have hpar := params_any k tl (by intro x hx; rw [htl] at hx; have := HEL.out x (List.mem_of_mem_tail hx); omega) (by rw [htl, List.length_tail]; omega) b off tl.length W3 (HVR.out.go hb3) (fun j hj => Below.cell_on hb13 (htc j hj))
  rw [← hpx] at hpar
  have hTT : T = V.mbox k po px := by
    rw [HT.out]
    unfold V.mailbox
    rw [← HWS.out, HP.out.1, hpx, htl, HX0.out]
    cases hw : ws with
    | nil => rw [hw] at hlen; simp at hlen
    | cons a t => rfl
  have htn : tl.length ≤ 10001 := by rw [htl, List.length_tail]; omega
  have HTT := Aside0.mk hTT
  have HR3 := Aside0.mk hr3
  have HB3 := Aside0.mk hb3
  have HPA := Aside0.mk hpar
  clear hTT htl hoff htc hW3 hG hr3 hb13 hb3 hpx hpar HEL HCE HPP H2 HSP
  have hend : ∀ (w4 : World), Below W3.heap.size W3 w4 → Below w.heap.size w w4 ∧ w4.heap[w.heap.size]? = some (.cells #[.int .i64 0, .string { data := #[] }, .bool false, .string { data := #[] }, .string { data := #[] }, .slice none 0 0] 26 (0, 0)) ∧ w4.heap[G]? = some (.cells #[.bool pn, .string pl, .string pd] 23 (0, 0)) := by
    intro w4 h
    refine ⟨HBR.out.trans ((HB3.out.trans (h.mono HB3.out.size)).mono HBR.out.size), ?_, ?_⟩
    · rw [(HB3.out.trans (h.mono HB3.out.size)).block w.heap.size (by rw [HSZ.out]; omega)]
      exact HROW.out
    · rw [h.block G (Array.getElem?_eq_some_iff.1 HR3.out).1]
      exact HR3.out
  have HEND := Aside0.mk hend
  clear hend
  cases px with
  | none =>
    have hT : T = none := by rw [HTT.out]; cases po <;> rfl
    have HTF := Aside0.mk hT
    have her : er = 0 ∨ er = 5 := by rw [HP.out.2.2.2.2]; cases po.isSome <;> simp [errOf]
    clear hT
    rcases her with rfl | rfl
    all_goals
      go_wp2_with (first | (go_at_call 58; (with_reducible refine Calls.mono HPA.out ?_); rintro e w4 ⟨h4, h⟩; obtain rfl : e = .returned (.tuple #[noSl, .bool false]) := h4; have H4 := Aside0.mk (HEND.out _ h); clear h; obtain ⟨⟨c0, c1, c2, c3, c4, c5⟩, f0, f1, f2, f3, f4, f5⟩ := cells6 H4.out.2.1))
      refine bodyPost_ret (v := .tuple #[cval V.noCmd noSl, .bool false]) ?_ rfl ⟨by rw [HTF.out]; rfl, below6 H4.out.1 (Nat.le_refl _)⟩
      exact results_ct (by rfl) _ _ w.heap.size 26 _ (0, 0) _ rfl (row6 H4.out.2.1) Tryz.underlying26 rfl (by kernel_rfl) _ rfl
  | some ps =>
    cases hpc : po with
    | none =>
      have hT : T = none := by rw [HTT.out, hpc]; rfl
      have her : er = 5 := by rw [HP.out.2.2.2.2, hpc]; rfl
      have HTF := Aside0.mk hT
      clear hT hpc
      subst her
      go_wp2_with (first | (go_at_call 58; (with_reducible refine Calls.mono HPA.out ?_); rintro e w4 ⟨h4, h⟩; obtain ⟨v4, rfl, hR4, hl4⟩ := h4; obtain ⟨A4, q4, rfl, _, _⟩ := Kd.R_reads hR4; have HR4 := Aside0.mk hR4; have HL4 := Aside0.mk hl4; have H4 := Aside0.mk (HEND.out _ h); have H5 := Aside0.mk h; clear h hR4 hl4; obtain ⟨⟨c0, c1, c2, c3, c4, c5⟩, f0, f1, f2, f3, f4, f5⟩ := cells6 H4.out.2.1; obtain ⟨d0, d1, d2, g0, g1, g2⟩ := cells3 H4.out.2.2))
      refine bodyPost_ret (v := .tuple #[cval V.noCmd noSl, .bool false]) ?_ rfl ⟨by rw [HTF.out]; rfl, below6 H4.out.1 (Nat.le_refl _)⟩
      exact results_ct (by rfl) _ _ w.heap.size 26 _ (0, 0) _ rfl (row6 H4.out.2.1) Tryz.underlying26 rfl (by kernel_rfl) _ rfl
    | some p =>
      have her : er = 0 := by rw [HP.out.2.2.2.2, hpc]; rfl
      have hpn : pn = p.null := by rw [HP.out.2.1, hpc]; rfl
      have hpl : pl = str p.loc := by rw [HP.out.2.2.1, hpc]; rfl
      have hpd : pd = str p.dom := by rw [HP.out.2.2.2.1, hpc]; rfl
      by_cases hbad : k = 3 ∧ p.null = true
      · have hT : T = none := by rw [HTT.out, hpc]; show (if k = 3 ∧ p.null = true then none else _) = none; rw [if_pos hbad]
        have HTF := Aside0.mk hT
        have hpn2 : pn = true := by rw [hpn]; exact hbad.2
        obtain ⟨rfl, _⟩ := hbad
        clear hT hpc hpn hpl hpd
        subst her hpn2
        go_wp2_with (first | (go_at_call 58; (with_reducible refine Calls.mono HPA.out ?_); rintro e w4 ⟨h4, h⟩; obtain ⟨v4, rfl, hR4, hl4⟩ := h4; obtain ⟨A4, q4, rfl, _, _⟩ := Kd.R_reads hR4; have HR4 := Aside0.mk hR4; have HL4 := Aside0.mk hl4; have H4 := Aside0.mk (HEND.out _ h); have H5 := Aside0.mk h; clear h hR4 hl4; obtain ⟨⟨c0, c1, c2, c3, c4, c5⟩, f0, f1, f2, f3, f4, f5⟩ := cells6 H4.out.2.1; obtain ⟨d0, d1, d2, g0, g1, g2⟩ := cells3 H4.out.2.2))
        refine bodyPost_ret (v := .tuple #[cval V.noCmd noSl, .bool false]) ?_ rfl ⟨by rw [HTF.out]; rfl, below6 H4.out.1 (Nat.le_refl _)⟩
        exact results_ct (by rfl) _ _ w.heap.size 26 _ (0, 0) _ rfl (row6 H4.out.2.1) Tryz.underlying26 rfl (by kernel_rfl) _ rfl
      · have hT : T = some ⟨k, [], p, ps⟩ := by rw [HTT.out, hpc]; show (if k = 3 ∧ p.null = true then none else _) = _; rw [if_neg hbad]
        have HTF := Aside0.mk hT
        have HPV := Aside0.mk (And.intro hpn (And.intro hpl hpd))
        have hor : k = 3 → pn = false := by
          intro h3
          rw [hpn]
          cases hh : p.null with
          | false => rfl
          | true => exact absurd ⟨h3, hh⟩ hbad
        clear hT hpc hpn hpl hpd hbad
        subst her
        have hfin : ∀ (w4 : World) (v4 : Value) (h4 : Aside0 (kp.R 47 w4 W3.heap.size (fun _ => True) v4 ps)), kp.R 47 ((((((w4.setCell ⟨w.heap.size, 0, none⟩ (.int .i64 k)).setCell ⟨w.heap.size, 1, none⟩ (.string { data := #[] })).setCell ⟨w.heap.size, 2, none⟩ (.bool pn)).setCell ⟨w.heap.size, 3, none⟩ (.string pl)).setCell ⟨w.heap.size, 4, none⟩ (.string pd)).setCell ⟨w.heap.size, 5, none⟩ v4) w.heap.size (fun _ => True) v4 ps := by
          intro w4 v4 h4
          have hle : w.heap.size + 1 ≤ W3.heap.size := by have := HB3.out.size; rw [HSZ.out] at this; exact this
          exact Kd.R_lower (kpR_on h4.out (fun j hj => set6_other (by omega))) (by omega)
        have HFIN := Aside0.mk hfin
        clear hfin
        by_cases h3 : k = 3
        · have hpf := hor h3
          subst h3 hpf
          go_wp2_with (first | (go_at_call 58; (with_reducible refine Calls.mono HPA.out ?_); rintro e w4 ⟨h4, h⟩; obtain ⟨v4, rfl, hR4, hl4⟩ := h4; obtain ⟨A4, q4, rfl, _, _⟩ := Kd.R_reads hR4; have HR4 := Aside0.mk hR4; have HL4 := Aside0.mk hl4; have H4 := Aside0.mk (HEND.out _ h); have H5 := Aside0.mk h; clear h hR4 hl4; obtain ⟨⟨c0, c1, c2, c3, c4, c5⟩, f0, f1, f2, f3, f4, f5⟩ := cells6 H4.out.2.1; obtain ⟨d0, d1, d2, g0, g1, g2⟩ := cells3 H4.out.2.2))
          refine bodyPost_ret (v := .tuple #[cval ⟨3, [], p, ps⟩ (.slice A4 ps.length q4), .bool true]) ?_ rfl ⟨?_, below6 H4.out.1 (Nat.le_refl _)⟩
          · unfold cval
            rw [← HPV.out.1, ← HPV.out.2.1, ← HPV.out.2.2]
            exact results_ct (by rfl) _ _ w.heap.size 26 _ (0, 0) _ rfl (row6 H4.out.2.1) Tryz.underlying26 rfl (by kernel_rfl) _ rfl
          · rw [HTF.out]
            exact ⟨_, rfl, HFIN.out _ _ HR4, by have := HL4.out; simp only; omega⟩
        · have t3 : decide (k = 3) = false := decide_eq_false h3
          have t4 : (k == 3) = false := by simp [h3]
          clear hor
          go_wp2_with (first | (go_at_call 58; (with_reducible refine Calls.mono HPA.out ?_); rintro e w4 ⟨h4, h⟩; obtain ⟨v4, rfl, hR4, hl4⟩ := h4; obtain ⟨A4, q4, rfl, _, _⟩ := Kd.R_reads hR4; have HR4 := Aside0.mk hR4; have HL4 := Aside0.mk hl4; have H4 := Aside0.mk (HEND.out _ h); have H5 := Aside0.mk h; clear h hR4 hl4; obtain ⟨⟨c0, c1, c2, c3, c4, c5⟩, f0, f1, f2, f3, f4, f5⟩ := cells6 H4.out.2.1; obtain ⟨d0, d1, d2, g0, g1, g2⟩ := cells3 H4.out.2.2))
          refine bodyPost_ret (v := .tuple #[cval ⟨k, [], p, ps⟩ (.slice A4 ps.length q4), .bool true]) ?_ rfl ⟨?_, below6 H4.out.1 (Nat.le_refl _)⟩
          · unfold cval
            rw [← HPV.out.1, ← HPV.out.2.1, ← HPV.out.2.2]
            exact results_ct (by rfl) _ _ w.heap.size 26 _ (0, 0) _ rfl (row6 H4.out.2.1) Tryz.underlying26 rfl (by kernel_rfl) _ rfl
          · rw [HTF.out]
            exact ⟨_, rfl, HFIN.out _ _ HR4, by have := HL4.out; simp only; omega⟩
end Go.Proofs.YteiknmcmaemcoaaGreatDoor
/- What verb's alone answers: a map that is made, filled and read. -/
namespace Go.Proofs.YteiknmcmaemcoaaGreatDoor
open Go.RowKit Go.Lib Go.Maps
open Go.Proofs.YteiknmcmaemcoaaGreatDoorW.PrintWords
set_option linter.unusedVariables false
set_option linter.unusedSimpArgs false
theorem wpList_insert_own {H : Type} {P : Program} (w : World) {ops : Array Oper} {rest : List Oper} {o : Oper} {a : Act} {Q : Exit → Act → World → Prop}
    (hg : o.guard = none) (m x v : Operand) (t : TypeId) (hop : o.op = Op.insert t m x v)
    (k e : TypeId) (K : Keyed P k) (ht : P.underlying t = some (.map k e)) (R : Value → Option (DataW H × List MemPlace)) (b n : Nat) (D : DataW H)
    (hm : a.eval m = .map (some b)) (hown : w.ownsMap P k R b n D) (hn : n < maxLen) (key val : Value) (kl : Lit) (hx : a.eval x = key) (hv : a.eval v = val) (hkey : keyOf P k key = some kl)
    (d : DataW H) (ps : List MemPlace) (hval : R val = some (d, ps))
    (hK : ∀ w', w'.ownsMap P k R b (n + 1) (D.put kl d) → w.grownBy w' (some b) → wpList P ops Q rest (a.put o.dst undef) w') :
    wpList P ops Q (o :: rest) a w := by
  refine wpList_plain hg fun K' hK' => ?_
  obtain ⟨w', hrun, r1, r2⟩ := hown.update K ht hn hkey hval
  unfold Oper.wp
  simp [execOp, hop, hm, hx, hv, hrun, Result.andThen]
  exact hK' _ _ (hK w' r1 r2)
theorem ownsMap_on {H : Type} {P : Program} {k : TypeId} {R : Value → Option (DataW H × List MemPlace)} {b n : Nat} {D : DataW H} {w w' : World} (h : w.ownsMap P k R b n D) (hb : w'.heap[b]? = w.heap[b]?) : w'.ownsMap P k R b n D := by
  obtain ⟨es, clock, h1, h2⟩ := h
  exact ⟨es, clock, hb.trans h1, h2⟩
/-- The entries of a map from words to numbers, the last one put ahead. -/
def V.words (T : List (V.Bs × Int)) : DataW Unit := T.foldr (fun p m => m.put (.string p.1) (.lit (.int .i64 p.2))) (.map [])
theorem V.words_map : ∀ T, IsMap (V.words T)
  | [] => isMap_empty
  | p :: T => (V.words_map T).put _ _
theorem V.words_has (l : V.Bs) : ∀ T, Maps.has (V.words T) (.string l) = T.any (fun p => decide (p.1 = l))
  | [] => rfl
  | p :: T => by
    show Maps.has ((V.words T).put (.string p.1) (.lit (.int .i64 p.2))) (.string l) = _
    by_cases h : p.1 = l
    · subst h
      rw [has_put_same (k := .string p.1) (V.words_map T) trivial]
      simp
    · rw [has_put_other (by intro e; injection e with e; exact h e.symm), V.words_has l T]
      simp [h]
def V.look (l : V.Bs) : List (V.Bs × Int) → Int
  | [] => 0
  | p :: T => if p.1 = l then p.2 else V.look l T
theorem V.words_at (l : V.Bs) : ∀ T, (V.words T).atKey (.string l) (.lit (.int .i64 0)) = .lit (.int .i64 (V.look l T))
  | [] => rfl
  | p :: T => by
    show ((V.words T).put (.string p.1) (.lit (.int .i64 p.2))).atKey (.string l) _ = _
    unfold V.look
    by_cases h : p.1 = l
    · subst h
      rw [atKey_put_same (k := .string p.1) (V.words_map T) trivial, if_pos rfl]
    · rw [atKey_put_other (by intro e; injection e with e; exact h e.symm), V.words_at l T, if_neg h]
/-- The words that stand alone. -/
def aloneT : List (V.Bs × Int) := [([97, 117, 116, 104, 32, 99, 114, 97, 109, 45, 109, 100, 53], 10), ([97, 116, 114, 110], 11), ([110, 111, 111, 112], 7), ([113, 117, 105, 116], 8), ([114, 115, 101, 116], 5), ([100, 97, 116, 97], 4)]
def V.aloneK (l : V.Bs) : Int := V.look (V.fold l) aloneT
def V.aloneB (l : V.Bs) : Bool := aloneT.any (fun p => decide (p.1 = V.fold l))
theorem lawS : Keyed Tryz.prog 9 := string_keyed Tryz.underlying9
theorem zeroI (w : World) : (zeroValue 3).run Tryz.prog w = .ok (.int .i64 0) w := by kernel_rfl
theorem keyS (s : ByteArray) (h : s.size ≤ 1000000) : keyOf Tryz.prog 9 (.string s) = some (.string (lst s)) := Go.WideMaps.keyOf_string_mk Tryz.underlying9 (by unfold maxLen; omega)
abbrev ownM (w : World) (b n : Nat) (T : List (V.Bs × Int)) : Prop := w.ownsMap Tryz.prog 9 (plainElem Tryz.prog 3) b n (V.words T)
theorem ins_step {ops : Array Oper} {rest : List Oper} {o : Oper} {a : Act} {Q : Exit → Act → World → Prop} (w : World) (hg : o.guard = none) (K : ByteArray) (c : Int) (hop : o.op = Op.insert 79 (.tmp 7) (.const (.string K)) (.const (.int .i64 c)))
    (b n : Nat) (T : List (V.Bs × Int)) (hm : a.eval (.tmp 7) = .map (some b)) (hown : ownM w b n T) (hn : n ≤ 100) (hK : K.size ≤ 100) (hc : (Lit.int .i64 c).wf = true) (k : V.Bs) (hk : k = lst K)
    (hq : ∀ w', ownM w' b (n + 1) ((k, c) :: T) → w.grownBy w' (some b) → wpList Tryz.prog ops Q rest (a.put o.dst undef) w') : wpList Tryz.prog ops Q (o :: rest) a w := by
  subst hk
  exact wpList_insert_own w hg _ _ _ _ hop 9 3 lawS Tryz.underlying79 _ b n (V.words T) hm hown (by unfold maxLen; omega) _ _ (.string (lst K)) rfl rfl (keyS K (by omega)) (.lit (.int .i64 c)) [] (plainElem_int Tryz.underlying3 hc) hq
set_option maxRecDepth 100000 in
set_option maxHeartbeats 4000000 in
theorem alone_any (s : ByteArray) (w : World) (hs : s.size ≤ 10000) :
    Calls Tryz.prog 40 #[.string s] w fun e w' => e = .returned (.tuple #[cval ⟨V.aloneK (lst s), [], V.noPath, []⟩ noSl, .bool (V.aloneB (lst s))]) ∧ Below w.heap.size w w' := by
  obtain ⟨F, hF⟩ : ∃ F, F = foldB s := ⟨_, rfl⟩
  have hfs : lst F = V.fold (lst s) := by rw [hF]; unfold foldB; rw [lst_str]
  have hfl : F.size ≤ 10000 := by rw [← lst_length, hfs, V.fold_length, lst_length]; exact hs
  have hcf : ∀ w, Calls Tryz.prog 19 #[.string s] w fun e w' => e = .returned (.string F) ∧ Below w.heap.size w w' := by
    intro w; rw [hF]; exact fold_any s w (by omega)
  have HF := Aside0.mk hfs
  have HCF := Aside0.mk hcf
  have hkey : keyOf Tryz.prog 9 (.string F) = some (.string (lst F)) := keyS F (by omega)
  have HKEY := Aside0.mk hkey
  clear hF hfs hcf hkey
  have hmm := @run_makeMap Tryz.prog
  obtain ⟨wM, hwM⟩ : ∃ wM, wM = (w.alloc (.cells #[.int .i64 0, .string { data := #[] }, .bool false, .string { data := #[] }, .string { data := #[] }, .slice none 0 0] 26)).alloc (.map #[] 0) := ⟨_, rfl⟩
  have hown : ownM wM (w.heap.size + 1) 0 [] := by
    rw [hwM]
    have h := World.ownsMap_made (w.alloc (.cells #[.int .i64 0, .string { data := #[] }, .bool false, .string { data := #[] }, .string { data := #[] }, .slice none 0 0] 26)) Tryz.prog 9 (plainElem (H := Unit) Tryz.prog 3)
    have e : (w.alloc (.cells #[.int .i64 0, .string { data := #[] }, .bool false, .string { data := #[] }, .string { data := #[] }, .slice none 0 0] 26)).heap.size = w.heap.size + 1 := by simp
    rw [e] at h
    exact h
  have hrow : wM.heap[w.heap.size]? = some (.cells #[.int .i64 0, .string { data := #[] }, .bool false, .string { data := #[] }, .string { data := #[] }, .slice none 0 0] 26 (0, 0)) := by
    rw [hwM, heap_alloc_old _ _ (by simp)]
    exact heap_alloc_new _ _
  have hbM : Below w.heap.size w wM := by
    rw [hwM]
    exact ((Below.refl _ w).alloc (Nat.le_refl _) _).alloc (by simp) _
  have HROW := Aside0.mk hrow
  have HBM := Aside0.mk hbM
  have hszM : wM.heap.size = w.heap.size + 2 := by rw [hwM]; simp
  have HSM := Aside0.mk hszM
  subst hwM
  have HO := Aside0.mk hown
  clear hown hrow hbM hszM
  go_enter Tryz.func40, Tryz.ntmps40
  go_upto_region 2 with (first | ((with_reducible refine gate_ (.insert 79 (.tmp 7) (.const (.string { data := #[100, 97, 116, 97] })) (.const (.int .i64 4))) rfl ?_); refine ins_step _ rfl _ _ rfl (w.heap.size + 1) 0 [] rfl HO.out (by decide) (by decide) (by decide) [100, 97, 116, 97] rfl ?_; intro w0 ho hg; have HO0 := Aside0.mk ho; have HG0 := Aside0.mk hg; clear ho hg) | ((with_reducible refine gate_ (.insert 79 (.tmp 7) (.const (.string { data := #[114, 115, 101, 116] })) (.const (.int .i64 5))) rfl ?_); refine ins_step _ rfl _ _ rfl (w.heap.size + 1) 1 [([100, 97, 116, 97], 4)] rfl HO0.out (by decide) (by decide) (by decide) [114, 115, 101, 116] rfl ?_; intro w1 ho hg; have HO1 := Aside0.mk ho; have HG1 := Aside0.mk hg; clear ho hg) | ((with_reducible refine gate_ (.insert 79 (.tmp 7) (.const (.string { data := #[113, 117, 105, 116] })) (.const (.int .i64 8))) rfl ?_); refine ins_step _ rfl _ _ rfl (w.heap.size + 1) 2 [([114, 115, 101, 116], 5), ([100, 97, 116, 97], 4)] rfl HO1.out (by decide) (by decide) (by decide) [113, 117, 105, 116] rfl ?_; intro w2 ho hg; have HO2 := Aside0.mk ho; have HG2 := Aside0.mk hg; clear ho hg) | ((with_reducible refine gate_ (.insert 79 (.tmp 7) (.const (.string { data := #[110, 111, 111, 112] })) (.const (.int .i64 7))) rfl ?_); refine ins_step _ rfl _ _ rfl (w.heap.size + 1) 3 [([113, 117, 105, 116], 8), ([114, 115, 101, 116], 5), ([100, 97, 116, 97], 4)] rfl HO2.out (by decide) (by decide) (by decide) [110, 111, 111, 112] rfl ?_; intro w3 ho hg; have HO3 := Aside0.mk ho; have HG3 := Aside0.mk hg; clear ho hg) | ((with_reducible refine gate_ (.insert 79 (.tmp 7) (.const (.string { data := #[97, 116, 114, 110] })) (.const (.int .i64 11))) rfl ?_); refine ins_step _ rfl _ _ rfl (w.heap.size + 1) 4 [([110, 111, 111, 112], 7), ([113, 117, 105, 116], 8), ([114, 115, 101, 116], 5), ([100, 97, 116, 97], 4)] rfl HO3.out (by decide) (by decide) (by decide) [97, 116, 114, 110] rfl ?_; intro w4 ho hg; have HO4 := Aside0.mk ho; have HG4 := Aside0.mk hg; clear ho hg) | ((with_reducible refine gate_ (.insert 79 (.tmp 7) (.const (.string { data := #[97, 117, 116, 104, 32, 99, 114, 97, 109, 45, 109, 100, 53] })) (.const (.int .i64 10))) rfl ?_); refine ins_step _ rfl _ _ rfl (w.heap.size + 1) 5 [([97, 116, 114, 110], 11), ([110, 111, 111, 112], 7), ([113, 117, 105, 116], 8), ([114, 115, 101, 116], 5), ([100, 97, 116, 97], 4)] rfl HO4.out (by decide) (by decide) (by decide) [97, 117, 116, 104, 32, 99, 114, 97, 109, 45, 109, 100, 53] rfl ?_; intro w5 ho hg; have HO5 := Aside0.mk ho; have HG5 := Aside0.mk hg; clear ho hg))
  have hgo : ∀ {w1 w2 : World}, Below w.heap.size w w1 ∧ w1.heap[w.heap.size]? = some (.cells #[.int .i64 0, .string { data := #[] }, .bool false, .string { data := #[] }, .string { data := #[] }, .slice none 0 0] 26 (0, 0)) ∧ w.heap.size + 2 ≤ w1.heap.size → w1.grownBy w2 (some (w.heap.size + 1)) → Below w.heap.size w w2 ∧ w2.heap[w.heap.size]? = some (.cells #[.int .i64 0, .string { data := #[] }, .bool false, .string { data := #[] }, .string { data := #[] }, .slice none 0 0] 26 (0, 0)) ∧ w.heap.size + 2 ≤ w2.heap.size := by
    intro w1 w2 h hg
    refine ⟨h.1.grown hg h.1.size (fun j hj => by cases hj; omega), ?_, Nat.le_trans h.2.2 hg.size⟩
    rw [hg.block w.heap.size (by omega) (by intro e; injection e with e; omega)]
    exact h.2.1
  have h5 := hgo (hgo (hgo (hgo (hgo (hgo ⟨HBM.out, HROW.out, Nat.le_of_eq HSM.out.symm⟩ HG0.out) HG1.out) HG2.out) HG3.out) HG4.out) HG5.out
  have H5 := Aside0.mk h5
  clear hgo h5 HG0 HG1 HG2 HG3 HG4 HG5 HO HO0 HO1 HO2 HO3 HO4 HBM HROW HSM hmm
  have hown6 : ∀ w6, Below w5.heap.size w5 w6 → ownM w6 (w.heap.size + 1) 6 aloneT := fun w6 h => ownsMap_on HO5.out (h.block _ (by have := H5.out.2.2; omega))
  have HOW := Aside0.mk hown6
  clear hown6
  go_wp2_with (first | (go_at_call 19; (with_reducible refine Calls.mono (HCF.out _) ?_); rintro e w6 ⟨rfl, h⟩; have H6 := Aside0.mk h; have HO6 := Aside0.mk (HOW.out _ h); have R := Aside0.mk ((h.block w.heap.size (by have := H5.out.2.2; omega)).trans H5.out.2.1); clear h; obtain ⟨⟨c0, c1, c2, c3, c4, c5⟩, f0, f1, f2, f3, f4, f5⟩ := cells6 R.out) | ((with_reducible refine gate_dst (N := 13) rfl ?_); refine wpList_lookup_own_ok_int _ rfl _ _ 79 rfl 9 3 .i64 lawS Tryz.underlying79 Tryz.underlying3 (zeroI _) (w.heap.size + 1) 6 (V.words aloneT) rfl HO6.out (.string F) (.string (lst F)) rfl HKEY.out ?_; intro c hat hwc; rw [V.words_has, HF.out]; have HAT := Aside0.mk hat; clear hat hwc))
  have hc : c = V.aloneK (lst s) := by
    have h := HAT.out
    rw [V.words_at, HF.out] at h
    injection h with h
    injection h with h1 h2
    exact h2.symm
  subst hc
  refine bodyPost_ret (v := .tuple #[cval ⟨V.aloneK (lst s), [], V.noPath, []⟩ noSl, .bool (V.aloneB (lst s))]) ?_ rfl ⟨rfl, below6 (H5.out.1.trans (H6.out.mono H5.out.1.size)) (Nat.le_refl _)⟩
  exact results_ct (by rfl) _ _ w.heap.size 26 _ (0, 0) _ rfl (row6 R.out) Tryz.underlying26 rfl (by kernel_rfl) _ rfl
end Go.Proofs.YteiknmcmaemcoaaGreatDoor
/- What verb's read answers. -/
namespace Go.Proofs.YteiknmcmaemcoaaGreatDoor
open Go.RowKit Go.Lib
open Go.Proofs.YteiknmcmaemcoaaGreatDoorW.PrintWords
set_option linter.unusedVariables false
set_option linter.unusedSimpArgs false
theorem fin_R {w4 : World} {B B' g : Nat} {v : Value} {xs : List Prm} {ok : Nat → Prop} (h : kp.R 47 w4 B' ok v xs) (hg : g < B') (hB : B ≤ B') {a0 a1 a2 a3 a4 a5 : Value} :
    kp.R 47 ((((((w4.setCell ⟨g, 0, none⟩ a0).setCell ⟨g, 1, none⟩ a1).setCell ⟨g, 2, none⟩ a2).setCell ⟨g, 3, none⟩ a3).setCell ⟨g, 4, none⟩ a4).setCell ⟨g, 5, none⟩ a5) B (fun _ => True) v xs :=
  Kd.R_lower (kpR_on h (fun j hj => set6_other (by omega))) hB
abbrev zeroC : Array Value := #[.int .i64 0, .string { data := #[] }, .bool false, .string { data := #[] }, .string { data := #[] }, .slice none 0 0]
def V.namedO (k : Int) (l : V.Bs) : Option V.Cmd := if V.domain l then some ⟨k, l, V.noPath, []⟩ else none
/-- The beginnings that stand ahead of a domain or a mailbox. -/
def readT : List (V.Bs × Int × Bool) := [([101, 104, 108, 111, 32], 1, false), ([104, 101, 108, 111, 32], 1, false), ([109, 97, 105, 108, 32, 102, 114, 111, 109, 58], 2, true), ([114, 99, 112, 116, 32, 116, 111, 58], 3, true), ([101, 116, 114, 110, 32], 9, false), ([97, 116, 114, 110, 32], 11, false)]
def V.tryT (l : V.Bs) : List (V.Bs × Int × Bool) → Option (Option V.Cmd)
  | [] => none
  | x :: t => match V.after l x.1 with
    | some r => some (if x.2.2 then V.mailbox x.2.1 r else V.namedO x.2.1 r)
    | none => V.tryT l t
def noopB : V.Bs := [110, 111, 111, 112, 32]
def vrfyB : V.Bs := [118, 114, 102, 121, 32]
def V.tail (l : V.Bs) : Option V.Cmd :=
  if (V.after l noopB).isSome then some ⟨7, [], V.noPath, []⟩ else
  match V.after l vrfyB with
  | some r => if r.isEmpty then none else some ⟨6, r, V.noPath, []⟩
  | none => none
def V.read (l : V.Bs) : Option V.Cmd :=
  if V.aloneB l then some ⟨V.aloneK l, [], V.noPath, []⟩ else
  match V.tryT l readT with
  | some o => o
  | none => V.tail l
theorem V.after_len {l b r : V.Bs} (h : V.after l b = some r) : r.length ≤ l.length := by
  unfold V.after at h
  split at h
  · cases h; simp
  · cases h
theorem V.tryT_drop (l : V.Bs) (T : List (V.Bs × Int × Bool)) (n : Nat) (x : V.Bs × Int × Bool) (hx : T[n]? = some x) : V.tryT l (T.drop n) = match V.after l x.1 with | some r => some (if x.2.2 then V.mailbox x.2.1 r else V.namedO x.2.1 r) | none => V.tryT l (T.drop (n + 1)) := by
  obtain ⟨hn, he⟩ := List.getElem?_eq_some_iff.1 hx
  rw [List.drop_eq_getElem_cons hn, he, V.tryT]
def fnOf (m : Bool) : Nat := if m then 42 else 41
/-- What a branch of read answers. -/
theorem branch_any (m : Bool) (k : Int) (s : ByteArray) (w : World) (hs : s.size ≤ 10000) (hv : Vars w) :
    Calls Tryz.prog (fnOf m) #[.int .i64 k, .string s] w fun e w' => cmdPost (if m then V.mailbox k (lst s) else V.namedO k (lst s)) (.bool true) (.bool false) w.heap.size e w' ∧ Below w.heap.size w w' := by
  cases m with
  | true => exact mailbox_any k s w hs hv
  | false =>
    refine (named_any k s w (by omega) hv).mono ?_
    rintro e w' ⟨rfl, h⟩
    refine ⟨?_, h⟩
    unfold V.namedO
    cases V.domain (lst s) with
    | true => exact ⟨noSl, by show _ = Ending.returned (Value.tuple #[.agg (cv k (str (lst s)) false (str []) (str []) noSl), .bool true]); rw [str_lst]; rfl, Kd.R_nil _ _ _ _ _, by simp⟩
    | false => rfl
/-- A command's answer, taken apart and put together again. -/
theorem cmd_open {T : Option V.Cmd} {B : Nat} {e : Ending} {w' : World} (h : cmdPost T (.bool true) (.bool false) B e w') :
    ∃ (k : Int) (t : ByteArray) (n : Bool) (l d : ByteArray) (A : Option Addr) (N q : Nat) (bb : Bool) (xs : List Prm), e = .returned (.tuple #[.agg #[.int .i64 k, .string t, .bool n, .string l, .string d, .slice A N q], .bool bb]) ∧
      kp.R 47 w' B (fun _ => True) (.slice A N q) xs ∧
      ∀ (B' : Nat) (w'' : World), kp.R 47 w'' B' (fun _ => True) (.slice A N q) xs → cmdPost T (.bool true) (.bool false) B' (.returned (.tuple #[.agg #[.int .i64 k, .string t, .bool n, .string l, .string d, .slice A N q], .bool bb])) w'' := by
  cases T with
  | none =>
    obtain rfl : e = .returned (.tuple #[cval V.noCmd noSl, .bool false]) := h
    exact ⟨_, _, _, _, _, none, 0, 0, _, [], rfl, Kd.R_nil _ _ _ _ _, fun _ _ _ => rfl⟩
  | some c =>
    obtain ⟨v, rfl, hR, hl⟩ := h
    obtain ⟨A, q, rfl, _, _⟩ := Kd.R_reads hR
    exact ⟨_, _, _, _, _, A, _, q, _, c.prms, rfl, hR, fun _ _ h => ⟨_, rfl, h, hl⟩⟩
set_option maxRecDepth 100000 in
set_option maxHeartbeats 4000000 in
theorem read_any (s : ByteArray) (w : World) (hs : s.size ≤ 10000) (hv : Vars w) :
    Calls Tryz.prog 22 #[.string s] w fun e w' => cmdPost (V.read (lst s)) (.bool true) (.bool false) w.heap.size e w' ∧ Below w.heap.size w w' := by
  obtain ⟨T, hT⟩ : ∃ T, T = V.read (lst s) := ⟨_, rfl⟩
  rw [← hT]
  have HT := Aside0.mk hT
  have HV := Aside0.mk hv
  obtain ⟨wR, hwR⟩ : ∃ wR, wR = w.alloc (.cells zeroC 26) := ⟨_, rfl⟩
  have hbR : Below w.heap.size w wR := by rw [hwR]; exact (Below.refl _ w).alloc (Nat.le_refl _) _
  have hrow : wR.heap[w.heap.size]? = some (.cells zeroC 26 (0, 0)) := by rw [hwR]; exact heap_alloc_new _ _
  have hsz : wR.heap.size = w.heap.size + 1 := by rw [hwR]; simp
  obtain ⟨ak, hak⟩ : ∃ ak, ak = V.aloneK (lst s) := ⟨_, rfl⟩
  obtain ⟨ab, hab⟩ : ∃ ab, ab = V.aloneB (lst s) := ⟨_, rfl⟩
  have hal : Calls Tryz.prog 40 #[.string s] wR fun e w' => e = .returned (.tuple #[.agg #[.int .i64 ak, .string { data := #[] }, .bool false, .string { data := #[] }, .string { data := #[] }, .slice none 0 0], .bool ab]) ∧ Below wR.heap.size wR w' := by
    have h := alone_any s wR hs
    rw [← hak, ← hab] at h
    exact h
  have HAL := Aside0.mk hal
  have HAK := Aside0.mk hak
  have HAB := Aside0.mk hab
  have HBR := Aside0.mk hbR
  have HROW := Aside0.mk hrow
  have HSZ := Aside0.mk hsz
  clear hT hv hbR hrow hsz hal hak hab
  go_enter Tryz.func22, Tryz.ntmps22
  go_upto_region 1 with (fail)
  rw [← hwR]
  clear hwR
  go_upto_region 2 with (first | (go_at_call 40; (with_reducible refine Calls.mono HAL.out ?_); rintro e w1 ⟨rfl, h⟩; have H1 := Aside0.mk h; clear h))
  obtain ⟨w2, hw2⟩ : ∃ w2, w2 = w1.alloc (.cells #[.int .i64 ak, .string { data := #[] }, .bool false, .string { data := #[] }, .string { data := #[] }, .slice none 0 0] 26) := ⟨_, rfl⟩
  rw [← hw2]
  obtain ⟨G, hG⟩ : ∃ G, G = w1.heap.size := ⟨_, rfl⟩
  rw [← hG]
  have hr2 : w2.heap[G]? = some (.cells #[.int .i64 ak, .string { data := #[] }, .bool false, .string { data := #[] }, .string { data := #[] }, .slice none 0 0] 26 (0, 0)) := by rw [hw2, hG]; exact heap_alloc_new _ _
  have hb2 : Below wR.heap.size wR w2 := by rw [hw2]; exact H1.out.alloc H1.out.size _
  have hrow2 : w2.heap[w.heap.size]? = some (.cells zeroC 26 (0, 0)) := (hb2.block _ (by rw [HSZ.out]; omega)).trans HROW.out
  have HR2 := Aside0.mk hr2
  have HB2 := Aside0.mk hb2
  have HW2 := Aside0.mk hrow2
  have HBW2 := Aside0.mk (HBR.out.trans (hb2.mono HBR.out.size))
  clear hw2 hG hr2 hb2 hrow2
  obtain ⟨⟨d0, d1, d2, d3, d4, d5⟩, g0, g1, g2, g3, g4, g5⟩ := cells6 HR2.out
  obtain ⟨⟨c0, c1, c2, c3, c4, c5⟩, f0, f1, f2, f3, f4, f5⟩ := cells6 HW2.out
  cases ab with
  | true =>
    have hT : T = some ⟨ak, [], V.noPath, []⟩ := by rw [HT.out]; unfold V.read; rw [← HAB.out, HAK.out]; rfl
    have HTF := Aside0.mk hT
    clear hT
    go_wp2_with (fail)
    refine bodyPost_ret (v := .tuple #[cval ⟨ak, [], V.noPath, []⟩ noSl, .bool true]) ?_ rfl ⟨?_, below6 HBW2.out (Nat.le_refl _)⟩
    · exact results_ct (by rfl) _ _ w.heap.size 26 _ (0, 0) _ rfl (row6 HW2.out) Tryz.underlying26 rfl (by kernel_rfl) _ rfl
    · rw [HTF.out]
      exact ⟨noSl, rfl, Kd.R_nil _ _ _ _ _, by simp⟩
  | false =>
    have hT : T = match V.tryT (lst s) readT with | some o => o | none => V.tail (lst s) := by rw [HT.out]; unfold V.read; rw [← HAB.out]; rfl
    have HTF := Aside0.mk hT
    clear hT
    go_upto_region 5 with (fail)
    obtain ⟨w3, hw3⟩ : ∃ w3, w3 = w2.alloc (.cells #[.string { data := #[101, 104, 108, 111, 32] }, .int .i64 1, .func (.func 41) #[] #[], .string { data := #[104, 101, 108, 111, 32] }, .int .i64 1, .func (.func 41) #[] #[], .string { data := #[109, 97, 105, 108, 32, 102, 114, 111, 109, 58] }, .int .i64 2, .func (.func 42) #[] #[], .string { data := #[114, 99, 112, 116, 32, 116, 111, 58] }, .int .i64 3, .func (.func 42) #[] #[], .string { data := #[101, 116, 114, 110, 32] }, .int .i64 9, .func (.func 41) #[] #[], .string { data := #[97, 116, 114, 110, 32] }, .int .i64 11, .func (.func 41) #[] #[]] 66) := ⟨_, rfl⟩
    rw [← hw3]
    obtain ⟨b, hb⟩ : ∃ b, b = w2.heap.size := ⟨_, rfl⟩
    rw [← hb]
    have hr3 : w3.heap[b]? = some (.cells #[.string { data := #[101, 104, 108, 111, 32] }, .int .i64 1, .func (.func 41) #[] #[], .string { data := #[104, 101, 108, 111, 32] }, .int .i64 1, .func (.func 41) #[] #[], .string { data := #[109, 97, 105, 108, 32, 102, 114, 111, 109, 58] }, .int .i64 2, .func (.func 42) #[] #[], .string { data := #[114, 99, 112, 116, 32, 116, 111, 58] }, .int .i64 3, .func (.func 42) #[] #[], .string { data := #[101, 116, 114, 110, 32] }, .int .i64 9, .func (.func 41) #[] #[], .string { data := #[97, 116, 114, 110, 32] }, .int .i64 11, .func (.func 41) #[] #[]] 66 (0, 0)) := by rw [hw3, hb]; exact heap_alloc_new _ _
    have hb3 : Below w2.heap.size w2 w3 := by rw [hw3]; exact (Below.refl _ _).alloc (Nat.le_refl _) _
    have hs2 : w.heap.size < w2.heap.size := (Array.getElem?_eq_some_iff.1 HW2.out).1
    have hbw3 : Below w.heap.size w w3 := HBW2.out.trans (hb3.mono (Nat.le_of_lt hs2))
    have hrow3 : w3.heap[w.heap.size]? = some (.cells zeroC 26 (0, 0)) := (hb3.block _ hs2).trans HW2.out
    have hs3 : w.heap.size < w3.heap.size := (Array.getElem?_eq_some_iff.1 hrow3).1
    have hsb : b < w3.heap.size := (Array.getElem?_eq_some_iff.1 hr3).1
    have hrows : ∀ wx, Below w3.heap.size w3 wx → wx.heap[w.heap.size]? = some (.cells zeroC 26 (0, 0)) := fun wx h => (h.block _ hs3).trans hrow3
    have htab : ∀ wx, Below w3.heap.size w3 wx → wx.heap[b]? = some (.cells #[.string { data := #[101, 104, 108, 111, 32] }, .int .i64 1, .func (.func 41) #[] #[], .string { data := #[104, 101, 108, 111, 32] }, .int .i64 1, .func (.func 41) #[] #[], .string { data := #[109, 97, 105, 108, 32, 102, 114, 111, 109, 58] }, .int .i64 2, .func (.func 42) #[] #[], .string { data := #[114, 99, 112, 116, 32, 116, 111, 58] }, .int .i64 3, .func (.func 42) #[] #[], .string { data := #[101, 116, 114, 110, 32] }, .int .i64 9, .func (.func 41) #[] #[], .string { data := #[97, 116, 114, 110, 32] }, .int .i64 11, .func (.func 41) #[] #[]] 66 (0, 0)) := fun wx h => (h.block _ hsb).trans hr3
    have HRO := Aside0.mk hrows
    have HTB := Aside0.mk htab
    have HB3 := Aside0.mk hbw3
    have HV3 := Aside0.mk (HV.out.go hbw3)
    clear hw3 hb hr3 hb3 hs2 hbw3 hrow3 hrows htab d0 d1 d2 d3 d4 d5 g0 g1 g2 g3 g4 g5 c0 c1 c2 c3 c4 c5 f0 f1 f2 f3 f4 f5 H1 HR2 HB2 HW2 HBW2 HBR HROW HSZ HAL HAK HAB HT hs3
    obtain ⟨X, hX⟩ : ∃ X, X = V.tryT (lst s) readT := ⟨_, rfl⟩
    rw [← hX] at HTF
    have HX := Aside0.mk hX
    clear hX
    go_loopg [29] 6 (fun g v29 wr => ∃ n : Nat, n ≤ 6 ∧ g + n = 6 ∧ v29 = .int .i64 n ∧ Aside0 (V.tryT (lst s) (readT.drop n) = X ∧ Below w3.heap.size w3 wr))
    case atStart => exact ⟨0, by omega, by omega, rfl, ⟨HX.out.symm, Below.refl _ _⟩⟩
    case round =>
      obtain ⟨n, hn, hg, rfl, H⟩ := hrel
      obtain ⟨wx, rfl⟩ : ∃ wz : World, wz = wr := ⟨_, rfl⟩
      obtain ⟨m, hm⟩ : ∃ m, m = wx.heap.size := ⟨_, rfl⟩
      have htb := HTB.out _ H.out.2
      have hcell : ∀ i v, (#[.string { data := #[101, 104, 108, 111, 32] }, .int .i64 1, .func (.func 41) #[] #[], .string { data := #[104, 101, 108, 111, 32] }, .int .i64 1, .func (.func 41) #[] #[], .string { data := #[109, 97, 105, 108, 32, 102, 114, 111, 109, 58] }, .int .i64 2, .func (.func 42) #[] #[], .string { data := #[114, 99, 112, 116, 32, 116, 111, 58] }, .int .i64 3, .func (.func 42) #[] #[], .string { data := #[101, 116, 114, 110, 32] }, .int .i64 9, .func (.func 41) #[] #[], .string { data := #[97, 116, 114, 110, 32] }, .int .i64 11, .func (.func 41) #[] #[]] : Array Value)[i]? = some v → wx.cell? ⟨b, i, none⟩ = some v := fun i v hv => by rw [cell_of_row wx b _ _ _ _ htb]; exact hv
      have hvx := HV3.out.go H.out.2
      have HVX := Aside0.mk hvx
      have hM := HRO.out _ H.out.2
      clear htb hvx
      match n, hn with
      | 0, _ =>
        have a0 := hcell 0 _ rfl
        have a1 := hcell 1 _ rfl
        have a2 := hcell 2 _ rfl
        have hst := V.tryT_drop (lst s) readT 0 _ rfl
        rw [H.out.1] at hst
        simp only at hst
        obtain ⟨o, ho⟩ : ∃ o, o = V.after (lst s) [101, 104, 108, 111, 32] := ⟨_, rfl⟩
        rw [← ho] at hst
        have haf : ∀ w, Calls Tryz.prog 43 #[.string s, .string { data := #[101, 104, 108, 111, 32] }] w fun e w' => e = .returned (oRes o) ∧ Below w.heap.size w w' := by
          intro w
          rw [ho]
          exact after_any s _ w (by omega) (by decide)
        have HAF := Aside0.mk haf
        have HST := Aside0.mk hst
        have HO := Aside0.mk ho
        clear hcell hst haf ho
        have hbox : ∀ w4, Below (wx.alloc (.cells #[.string { data := #[101, 104, 108, 111, 32] }, .int .i64 1, .func (.func 41) #[] #[]] 66)).heap.size (wx.alloc (.cells #[.string { data := #[101, 104, 108, 111, 32] }, .int .i64 1, .func (.func 41) #[] #[]] 66)) w4 → w4.heap[wx.heap.size]? = some (.cells #[.string { data := #[101, 104, 108, 111, 32] }, .int .i64 1, .func (.func 41) #[] #[]] 66 (0, 0)) ∧ Below wx.heap.size wx w4 := fun w4 h => ⟨(h.block _ (by simp)).trans (heap_alloc_new _ _), ((Below.refl _ wx).alloc (Nat.le_refl _) _).trans (h.mono (by simp))⟩
        have HBX := Aside0.mk hbox
        clear hbox
        cases o with
        | none =>
          have hT2 : V.tryT (lst s) (readT.drop 1) = X := HST.out.symm
          have HT2 := Aside0.mk hT2
          clear hT2
          go_wp2_with (first | (go_at_call 43; (with_reducible refine Calls.mono (HAF.out _) ?_); rintro e w4 ⟨rfl, h⟩; have H4 := Aside0.mk (HBX.out _ h).2; clear h; unfold oRes; simp only [Option.isSome_none, Option.getD_none]))
          go_roundg (gk - 1)
          case measure => omega
          case rel => exact ⟨1, by omega, by omega, by go_num, ⟨HT2.out, H.out.2.trans (H4.out.mono H.out.2.size)⟩⟩
        | some r =>
          have hT2 : T = (if false then V.mailbox 1 r else V.namedO 1 r) := by rw [HTF.out, HST.out]; try simp
          have hrl : (str r).size ≤ 10000 := by have := V.after_len HO.out.symm; rw [lst_length] at this; rw [str_size]; omega
          have hbr := fun w hv => branch_any false 1 (str r) w hrl hv
          rw [lst_str] at hbr
          rw [← hT2] at hbr
          have hbr2 : ∀ w, Vars w → Calls Tryz.prog 41 #[.int .i64 1, .string (str r)] w fun e w' => cmdPost T (.bool true) (.bool false) w.heap.size e w' ∧ Below w.heap.size w w' := hbr
          have HBR := Aside0.mk hbr2
          clear hT2 hbr hbr2
          go_wp2_with (first | (go_at_call 43; (with_reducible refine Calls.mono (HAF.out _) ?_); rintro e w4 ⟨rfl, h⟩; have H4 := Aside0.mk (HBX.out _ h); clear h; obtain ⟨e0, e1, e2, _, _, _⟩ := cells3 H4.out.1; unfold oRes; simp only [Option.isSome_some, Option.getD_some]) | (go_at_call 41; (with_reducible refine Calls.mono (HBR.out _ (HVX.out.go H4.out.2)) ?_); rintro e w5 ⟨h5, h⟩; have H5 := Aside0.mk ((H.out.2.trans (H4.out.2.mono H.out.2.size)).trans (h.mono (Nat.le_trans H.out.2.size H4.out.2.size))); have hz := Nat.le_trans H.out.2.size H4.out.2.size; have HZ := Aside0.mk hz; obtain ⟨k', t', n', l', d', A', N', q', bb, xs, rfl, hR, hfin⟩ := cmd_open h5; have HR := Aside0.mk hR; have HFN := Aside0.mk hfin; clear h hz h5 hR hfin; have ROW := Aside0.mk (HRO.out _ H5.out); obtain ⟨⟨c0, c1, c2, c3, c4, c5⟩, f0, f1, f2, f3, f4, f5⟩ := cells6 ROW.out))
          refine bodyPost_ret (v := .tuple #[.agg #[.int .i64 k', .string t', .bool n', .string l', .string d', .slice A' N' q'], .bool bb]) ?_ rfl ⟨?_, below6 (HB3.out.trans (H5.out.mono HB3.out.size)) (Nat.le_refl _)⟩
          · exact results_ct (by rfl) _ _ w.heap.size 26 _ (0, 0) _ rfl (row6 ROW.out) Tryz.underlying26 rfl (by kernel_rfl) _ rfl
          · have hz := HZ.out
            have hlt : w.heap.size < w3.heap.size := (Array.getElem?_eq_some_iff.1 (HRO.out w3 (Below.refl _ _))).1
            exact HFN.out _ _ (fin_R HR.out (by omega) (by omega))
      | 1, _ =>
        have a0 := hcell 3 _ rfl
        have a1 := hcell 4 _ rfl
        have a2 := hcell 5 _ rfl
        have hst := V.tryT_drop (lst s) readT 1 _ rfl
        rw [H.out.1] at hst
        simp only at hst
        obtain ⟨o, ho⟩ : ∃ o, o = V.after (lst s) [104, 101, 108, 111, 32] := ⟨_, rfl⟩
        rw [← ho] at hst
        have haf : ∀ w, Calls Tryz.prog 43 #[.string s, .string { data := #[104, 101, 108, 111, 32] }] w fun e w' => e = .returned (oRes o) ∧ Below w.heap.size w w' := by
          intro w
          rw [ho]
          exact after_any s _ w (by omega) (by decide)
        have HAF := Aside0.mk haf
        have HST := Aside0.mk hst
        have HO := Aside0.mk ho
        clear hcell hst haf ho
        have hbox : ∀ w4, Below (wx.alloc (.cells #[.string { data := #[104, 101, 108, 111, 32] }, .int .i64 1, .func (.func 41) #[] #[]] 66)).heap.size (wx.alloc (.cells #[.string { data := #[104, 101, 108, 111, 32] }, .int .i64 1, .func (.func 41) #[] #[]] 66)) w4 → w4.heap[wx.heap.size]? = some (.cells #[.string { data := #[104, 101, 108, 111, 32] }, .int .i64 1, .func (.func 41) #[] #[]] 66 (0, 0)) ∧ Below wx.heap.size wx w4 := fun w4 h => ⟨(h.block _ (by simp)).trans (heap_alloc_new _ _), ((Below.refl _ wx).alloc (Nat.le_refl _) _).trans (h.mono (by simp))⟩
        have HBX := Aside0.mk hbox
        clear hbox
        cases o with
        | none =>
          have hT2 : V.tryT (lst s) (readT.drop 2) = X := HST.out.symm
          have HT2 := Aside0.mk hT2
          clear hT2
          go_wp2_with (first | (go_at_call 43; (with_reducible refine Calls.mono (HAF.out _) ?_); rintro e w4 ⟨rfl, h⟩; have H4 := Aside0.mk (HBX.out _ h).2; clear h; unfold oRes; simp only [Option.isSome_none, Option.getD_none]))
          go_roundg (gk - 1)
          case measure => omega
          case rel => exact ⟨2, by omega, by omega, by go_num, ⟨HT2.out, H.out.2.trans (H4.out.mono H.out.2.size)⟩⟩
        | some r =>
          have hT2 : T = (if false then V.mailbox 1 r else V.namedO 1 r) := by rw [HTF.out, HST.out]; try simp
          have hrl : (str r).size ≤ 10000 := by have := V.after_len HO.out.symm; rw [lst_length] at this; rw [str_size]; omega
          have hbr := fun w hv => branch_any false 1 (str r) w hrl hv
          rw [lst_str] at hbr
          rw [← hT2] at hbr
          have hbr2 : ∀ w, Vars w → Calls Tryz.prog 41 #[.int .i64 1, .string (str r)] w fun e w' => cmdPost T (.bool true) (.bool false) w.heap.size e w' ∧ Below w.heap.size w w' := hbr
          have HBR := Aside0.mk hbr2
          clear hT2 hbr hbr2
          go_wp2_with (first | (go_at_call 43; (with_reducible refine Calls.mono (HAF.out _) ?_); rintro e w4 ⟨rfl, h⟩; have H4 := Aside0.mk (HBX.out _ h); clear h; obtain ⟨e0, e1, e2, _, _, _⟩ := cells3 H4.out.1; unfold oRes; simp only [Option.isSome_some, Option.getD_some]) | (go_at_call 41; (with_reducible refine Calls.mono (HBR.out _ (HVX.out.go H4.out.2)) ?_); rintro e w5 ⟨h5, h⟩; have H5 := Aside0.mk ((H.out.2.trans (H4.out.2.mono H.out.2.size)).trans (h.mono (Nat.le_trans H.out.2.size H4.out.2.size))); have hz := Nat.le_trans H.out.2.size H4.out.2.size; have HZ := Aside0.mk hz; obtain ⟨k', t', n', l', d', A', N', q', bb, xs, rfl, hR, hfin⟩ := cmd_open h5; have HR := Aside0.mk hR; have HFN := Aside0.mk hfin; clear h hz h5 hR hfin; have ROW := Aside0.mk (HRO.out _ H5.out); obtain ⟨⟨c0, c1, c2, c3, c4, c5⟩, f0, f1, f2, f3, f4, f5⟩ := cells6 ROW.out))
          refine bodyPost_ret (v := .tuple #[.agg #[.int .i64 k', .string t', .bool n', .string l', .string d', .slice A' N' q'], .bool bb]) ?_ rfl ⟨?_, below6 (HB3.out.trans (H5.out.mono HB3.out.size)) (Nat.le_refl _)⟩
          · exact results_ct (by rfl) _ _ w.heap.size 26 _ (0, 0) _ rfl (row6 ROW.out) Tryz.underlying26 rfl (by kernel_rfl) _ rfl
          · have hz := HZ.out
            have hlt : w.heap.size < w3.heap.size := (Array.getElem?_eq_some_iff.1 (HRO.out w3 (Below.refl _ _))).1
            exact HFN.out _ _ (fin_R HR.out (by omega) (by omega))
      | 2, _ =>
        have a0 := hcell 6 _ rfl
        have a1 := hcell 7 _ rfl
        have a2 := hcell 8 _ rfl
        have hst := V.tryT_drop (lst s) readT 2 _ rfl
        rw [H.out.1] at hst
        simp only at hst
        obtain ⟨o, ho⟩ : ∃ o, o = V.after (lst s) [109, 97, 105, 108, 32, 102, 114, 111, 109, 58] := ⟨_, rfl⟩
        rw [← ho] at hst
        have haf : ∀ w, Calls Tryz.prog 43 #[.string s, .string { data := #[109, 97, 105, 108, 32, 102, 114, 111, 109, 58] }] w fun e w' => e = .returned (oRes o) ∧ Below w.heap.size w w' := by
          intro w
          rw [ho]
          exact after_any s _ w (by omega) (by decide)
        have HAF := Aside0.mk haf
        have HST := Aside0.mk hst
        have HO := Aside0.mk ho
        clear hcell hst haf ho
        have hbox : ∀ w4, Below (wx.alloc (.cells #[.string { data := #[109, 97, 105, 108, 32, 102, 114, 111, 109, 58] }, .int .i64 2, .func (.func 42) #[] #[]] 66)).heap.size (wx.alloc (.cells #[.string { data := #[109, 97, 105, 108, 32, 102, 114, 111, 109, 58] }, .int .i64 2, .func (.func 42) #[] #[]] 66)) w4 → w4.heap[wx.heap.size]? = some (.cells #[.string { data := #[109, 97, 105, 108, 32, 102, 114, 111, 109, 58] }, .int .i64 2, .func (.func 42) #[] #[]] 66 (0, 0)) ∧ Below wx.heap.size wx w4 := fun w4 h => ⟨(h.block _ (by simp)).trans (heap_alloc_new _ _), ((Below.refl _ wx).alloc (Nat.le_refl _) _).trans (h.mono (by simp))⟩
        have HBX := Aside0.mk hbox
        clear hbox
        cases o with
        | none =>
          have hT2 : V.tryT (lst s) (readT.drop 3) = X := HST.out.symm
          have HT2 := Aside0.mk hT2
          clear hT2
          go_wp2_with (first | (go_at_call 43; (with_reducible refine Calls.mono (HAF.out _) ?_); rintro e w4 ⟨rfl, h⟩; have H4 := Aside0.mk (HBX.out _ h).2; clear h; unfold oRes; simp only [Option.isSome_none, Option.getD_none]))
          go_roundg (gk - 1)
          case measure => omega
          case rel => exact ⟨3, by omega, by omega, by go_num, ⟨HT2.out, H.out.2.trans (H4.out.mono H.out.2.size)⟩⟩
        | some r =>
          have hT2 : T = (if true then V.mailbox 2 r else V.namedO 2 r) := by rw [HTF.out, HST.out]; try simp
          have hrl : (str r).size ≤ 10000 := by have := V.after_len HO.out.symm; rw [lst_length] at this; rw [str_size]; omega
          have hbr := fun w hv => branch_any true 2 (str r) w hrl hv
          rw [lst_str] at hbr
          rw [← hT2] at hbr
          have hbr2 : ∀ w, Vars w → Calls Tryz.prog 42 #[.int .i64 2, .string (str r)] w fun e w' => cmdPost T (.bool true) (.bool false) w.heap.size e w' ∧ Below w.heap.size w w' := hbr
          have HBR := Aside0.mk hbr2
          clear hT2 hbr hbr2
          go_wp2_with (first | (go_at_call 43; (with_reducible refine Calls.mono (HAF.out _) ?_); rintro e w4 ⟨rfl, h⟩; have H4 := Aside0.mk (HBX.out _ h); clear h; obtain ⟨e0, e1, e2, _, _, _⟩ := cells3 H4.out.1; unfold oRes; simp only [Option.isSome_some, Option.getD_some]) | (go_at_call 42; (with_reducible refine Calls.mono (HBR.out _ (HVX.out.go H4.out.2)) ?_); rintro e w5 ⟨h5, h⟩; have H5 := Aside0.mk ((H.out.2.trans (H4.out.2.mono H.out.2.size)).trans (h.mono (Nat.le_trans H.out.2.size H4.out.2.size))); have hz := Nat.le_trans H.out.2.size H4.out.2.size; have HZ := Aside0.mk hz; obtain ⟨k', t', n', l', d', A', N', q', bb, xs, rfl, hR, hfin⟩ := cmd_open h5; have HR := Aside0.mk hR; have HFN := Aside0.mk hfin; clear h hz h5 hR hfin; have ROW := Aside0.mk (HRO.out _ H5.out); obtain ⟨⟨c0, c1, c2, c3, c4, c5⟩, f0, f1, f2, f3, f4, f5⟩ := cells6 ROW.out))
          refine bodyPost_ret (v := .tuple #[.agg #[.int .i64 k', .string t', .bool n', .string l', .string d', .slice A' N' q'], .bool bb]) ?_ rfl ⟨?_, below6 (HB3.out.trans (H5.out.mono HB3.out.size)) (Nat.le_refl _)⟩
          · exact results_ct (by rfl) _ _ w.heap.size 26 _ (0, 0) _ rfl (row6 ROW.out) Tryz.underlying26 rfl (by kernel_rfl) _ rfl
          · have hz := HZ.out
            have hlt : w.heap.size < w3.heap.size := (Array.getElem?_eq_some_iff.1 (HRO.out w3 (Below.refl _ _))).1
            exact HFN.out _ _ (fin_R HR.out (by omega) (by omega))
      | 3, _ =>
        have a0 := hcell 9 _ rfl
        have a1 := hcell 10 _ rfl
        have a2 := hcell 11 _ rfl
        have hst := V.tryT_drop (lst s) readT 3 _ rfl
        rw [H.out.1] at hst
        simp only at hst
        obtain ⟨o, ho⟩ : ∃ o, o = V.after (lst s) [114, 99, 112, 116, 32, 116, 111, 58] := ⟨_, rfl⟩
        rw [← ho] at hst
        have haf : ∀ w, Calls Tryz.prog 43 #[.string s, .string { data := #[114, 99, 112, 116, 32, 116, 111, 58] }] w fun e w' => e = .returned (oRes o) ∧ Below w.heap.size w w' := by
          intro w
          rw [ho]
          exact after_any s _ w (by omega) (by decide)
        have HAF := Aside0.mk haf
        have HST := Aside0.mk hst
        have HO := Aside0.mk ho
        clear hcell hst haf ho
        have hbox : ∀ w4, Below (wx.alloc (.cells #[.string { data := #[114, 99, 112, 116, 32, 116, 111, 58] }, .int .i64 3, .func (.func 42) #[] #[]] 66)).heap.size (wx.alloc (.cells #[.string { data := #[114, 99, 112, 116, 32, 116, 111, 58] }, .int .i64 3, .func (.func 42) #[] #[]] 66)) w4 → w4.heap[wx.heap.size]? = some (.cells #[.string { data := #[114, 99, 112, 116, 32, 116, 111, 58] }, .int .i64 3, .func (.func 42) #[] #[]] 66 (0, 0)) ∧ Below wx.heap.size wx w4 := fun w4 h => ⟨(h.block _ (by simp)).trans (heap_alloc_new _ _), ((Below.refl _ wx).alloc (Nat.le_refl _) _).trans (h.mono (by simp))⟩
        have HBX := Aside0.mk hbox
        clear hbox
        cases o with
        | none =>
          have hT2 : V.tryT (lst s) (readT.drop 4) = X := HST.out.symm
          have HT2 := Aside0.mk hT2
          clear hT2
          go_wp2_with (first | (go_at_call 43; (with_reducible refine Calls.mono (HAF.out _) ?_); rintro e w4 ⟨rfl, h⟩; have H4 := Aside0.mk (HBX.out _ h).2; clear h; unfold oRes; simp only [Option.isSome_none, Option.getD_none]))
          go_roundg (gk - 1)
          case measure => omega
          case rel => exact ⟨4, by omega, by omega, by go_num, ⟨HT2.out, H.out.2.trans (H4.out.mono H.out.2.size)⟩⟩
        | some r =>
          have hT2 : T = (if true then V.mailbox 3 r else V.namedO 3 r) := by rw [HTF.out, HST.out]; try simp
          have hrl : (str r).size ≤ 10000 := by have := V.after_len HO.out.symm; rw [lst_length] at this; rw [str_size]; omega
          have hbr := fun w hv => branch_any true 3 (str r) w hrl hv
          rw [lst_str] at hbr
          rw [← hT2] at hbr
          have hbr2 : ∀ w, Vars w → Calls Tryz.prog 42 #[.int .i64 3, .string (str r)] w fun e w' => cmdPost T (.bool true) (.bool false) w.heap.size e w' ∧ Below w.heap.size w w' := hbr
          have HBR := Aside0.mk hbr2
          clear hT2 hbr hbr2
          go_wp2_with (first | (go_at_call 43; (with_reducible refine Calls.mono (HAF.out _) ?_); rintro e w4 ⟨rfl, h⟩; have H4 := Aside0.mk (HBX.out _ h); clear h; obtain ⟨e0, e1, e2, _, _, _⟩ := cells3 H4.out.1; unfold oRes; simp only [Option.isSome_some, Option.getD_some]) | (go_at_call 42; (with_reducible refine Calls.mono (HBR.out _ (HVX.out.go H4.out.2)) ?_); rintro e w5 ⟨h5, h⟩; have H5 := Aside0.mk ((H.out.2.trans (H4.out.2.mono H.out.2.size)).trans (h.mono (Nat.le_trans H.out.2.size H4.out.2.size))); have hz := Nat.le_trans H.out.2.size H4.out.2.size; have HZ := Aside0.mk hz; obtain ⟨k', t', n', l', d', A', N', q', bb, xs, rfl, hR, hfin⟩ := cmd_open h5; have HR := Aside0.mk hR; have HFN := Aside0.mk hfin; clear h hz h5 hR hfin; have ROW := Aside0.mk (HRO.out _ H5.out); obtain ⟨⟨c0, c1, c2, c3, c4, c5⟩, f0, f1, f2, f3, f4, f5⟩ := cells6 ROW.out))
          refine bodyPost_ret (v := .tuple #[.agg #[.int .i64 k', .string t', .bool n', .string l', .string d', .slice A' N' q'], .bool bb]) ?_ rfl ⟨?_, below6 (HB3.out.trans (H5.out.mono HB3.out.size)) (Nat.le_refl _)⟩
          · exact results_ct (by rfl) _ _ w.heap.size 26 _ (0, 0) _ rfl (row6 ROW.out) Tryz.underlying26 rfl (by kernel_rfl) _ rfl
          · have hz := HZ.out
            have hlt : w.heap.size < w3.heap.size := (Array.getElem?_eq_some_iff.1 (HRO.out w3 (Below.refl _ _))).1
            exact HFN.out _ _ (fin_R HR.out (by omega) (by omega))
      | 4, _ =>
        have a0 := hcell 12 _ rfl
        have a1 := hcell 13 _ rfl
        have a2 := hcell 14 _ rfl
        have hst := V.tryT_drop (lst s) readT 4 _ rfl
        rw [H.out.1] at hst
        simp only at hst
        obtain ⟨o, ho⟩ : ∃ o, o = V.after (lst s) [101, 116, 114, 110, 32] := ⟨_, rfl⟩
        rw [← ho] at hst
        have haf : ∀ w, Calls Tryz.prog 43 #[.string s, .string { data := #[101, 116, 114, 110, 32] }] w fun e w' => e = .returned (oRes o) ∧ Below w.heap.size w w' := by
          intro w
          rw [ho]
          exact after_any s _ w (by omega) (by decide)
        have HAF := Aside0.mk haf
        have HST := Aside0.mk hst
        have HO := Aside0.mk ho
        clear hcell hst haf ho
        have hbox : ∀ w4, Below (wx.alloc (.cells #[.string { data := #[101, 116, 114, 110, 32] }, .int .i64 9, .func (.func 41) #[] #[]] 66)).heap.size (wx.alloc (.cells #[.string { data := #[101, 116, 114, 110, 32] }, .int .i64 9, .func (.func 41) #[] #[]] 66)) w4 → w4.heap[wx.heap.size]? = some (.cells #[.string { data := #[101, 116, 114, 110, 32] }, .int .i64 9, .func (.func 41) #[] #[]] 66 (0, 0)) ∧ Below wx.heap.size wx w4 := fun w4 h => ⟨(h.block _ (by simp)).trans (heap_alloc_new _ _), ((Below.refl _ wx).alloc (Nat.le_refl _) _).trans (h.mono (by simp))⟩
        have HBX := Aside0.mk hbox
        clear hbox
        cases o with
        | none =>
          have hT2 : V.tryT (lst s) (readT.drop 5) = X := HST.out.symm
          have HT2 := Aside0.mk hT2
          clear hT2
          go_wp2_with (first | (go_at_call 43; (with_reducible refine Calls.mono (HAF.out _) ?_); rintro e w4 ⟨rfl, h⟩; have H4 := Aside0.mk (HBX.out _ h).2; clear h; unfold oRes; simp only [Option.isSome_none, Option.getD_none]))
          go_roundg (gk - 1)
          case measure => omega
          case rel => exact ⟨5, by omega, by omega, by go_num, ⟨HT2.out, H.out.2.trans (H4.out.mono H.out.2.size)⟩⟩
        | some r =>
          have hT2 : T = (if false then V.mailbox 9 r else V.namedO 9 r) := by rw [HTF.out, HST.out]; try simp
          have hrl : (str r).size ≤ 10000 := by have := V.after_len HO.out.symm; rw [lst_length] at this; rw [str_size]; omega
          have hbr := fun w hv => branch_any false 9 (str r) w hrl hv
          rw [lst_str] at hbr
          rw [← hT2] at hbr
          have hbr2 : ∀ w, Vars w → Calls Tryz.prog 41 #[.int .i64 9, .string (str r)] w fun e w' => cmdPost T (.bool true) (.bool false) w.heap.size e w' ∧ Below w.heap.size w w' := hbr
          have HBR := Aside0.mk hbr2
          clear hT2 hbr hbr2
          go_wp2_with (first | (go_at_call 43; (with_reducible refine Calls.mono (HAF.out _) ?_); rintro e w4 ⟨rfl, h⟩; have H4 := Aside0.mk (HBX.out _ h); clear h; obtain ⟨e0, e1, e2, _, _, _⟩ := cells3 H4.out.1; unfold oRes; simp only [Option.isSome_some, Option.getD_some]) | (go_at_call 41; (with_reducible refine Calls.mono (HBR.out _ (HVX.out.go H4.out.2)) ?_); rintro e w5 ⟨h5, h⟩; have H5 := Aside0.mk ((H.out.2.trans (H4.out.2.mono H.out.2.size)).trans (h.mono (Nat.le_trans H.out.2.size H4.out.2.size))); have hz := Nat.le_trans H.out.2.size H4.out.2.size; have HZ := Aside0.mk hz; obtain ⟨k', t', n', l', d', A', N', q', bb, xs, rfl, hR, hfin⟩ := cmd_open h5; have HR := Aside0.mk hR; have HFN := Aside0.mk hfin; clear h hz h5 hR hfin; have ROW := Aside0.mk (HRO.out _ H5.out); obtain ⟨⟨c0, c1, c2, c3, c4, c5⟩, f0, f1, f2, f3, f4, f5⟩ := cells6 ROW.out))
          refine bodyPost_ret (v := .tuple #[.agg #[.int .i64 k', .string t', .bool n', .string l', .string d', .slice A' N' q'], .bool bb]) ?_ rfl ⟨?_, below6 (HB3.out.trans (H5.out.mono HB3.out.size)) (Nat.le_refl _)⟩
          · exact results_ct (by rfl) _ _ w.heap.size 26 _ (0, 0) _ rfl (row6 ROW.out) Tryz.underlying26 rfl (by kernel_rfl) _ rfl
          · have hz := HZ.out
            have hlt : w.heap.size < w3.heap.size := (Array.getElem?_eq_some_iff.1 (HRO.out w3 (Below.refl _ _))).1
            exact HFN.out _ _ (fin_R HR.out (by omega) (by omega))
      | 5, _ =>
        have a0 := hcell 15 _ rfl
        have a1 := hcell 16 _ rfl
        have a2 := hcell 17 _ rfl
        have hst := V.tryT_drop (lst s) readT 5 _ rfl
        rw [H.out.1] at hst
        simp only at hst
        obtain ⟨o, ho⟩ : ∃ o, o = V.after (lst s) [97, 116, 114, 110, 32] := ⟨_, rfl⟩
        rw [← ho] at hst
        have haf : ∀ w, Calls Tryz.prog 43 #[.string s, .string { data := #[97, 116, 114, 110, 32] }] w fun e w' => e = .returned (oRes o) ∧ Below w.heap.size w w' := by
          intro w
          rw [ho]
          exact after_any s _ w (by omega) (by decide)
        have HAF := Aside0.mk haf
        have HST := Aside0.mk hst
        have HO := Aside0.mk ho
        clear hcell hst haf ho
        have hbox : ∀ w4, Below (wx.alloc (.cells #[.string { data := #[97, 116, 114, 110, 32] }, .int .i64 11, .func (.func 41) #[] #[]] 66)).heap.size (wx.alloc (.cells #[.string { data := #[97, 116, 114, 110, 32] }, .int .i64 11, .func (.func 41) #[] #[]] 66)) w4 → w4.heap[wx.heap.size]? = some (.cells #[.string { data := #[97, 116, 114, 110, 32] }, .int .i64 11, .func (.func 41) #[] #[]] 66 (0, 0)) ∧ Below wx.heap.size wx w4 := fun w4 h => ⟨(h.block _ (by simp)).trans (heap_alloc_new _ _), ((Below.refl _ wx).alloc (Nat.le_refl _) _).trans (h.mono (by simp))⟩
        have HBX := Aside0.mk hbox
        clear hbox
        cases o with
        | none =>
          have hT2 : V.tryT (lst s) (readT.drop 6) = X := HST.out.symm
          have HT2 := Aside0.mk hT2
          clear hT2
          go_wp2_with (first | (go_at_call 43; (with_reducible refine Calls.mono (HAF.out _) ?_); rintro e w4 ⟨rfl, h⟩; have H4 := Aside0.mk (HBX.out _ h).2; clear h; unfold oRes; simp only [Option.isSome_none, Option.getD_none]))
          go_roundg (gk - 1)
          case measure => omega
          case rel => exact ⟨6, by omega, by omega, by go_num, ⟨HT2.out, H.out.2.trans (H4.out.mono H.out.2.size)⟩⟩
        | some r =>
          have hT2 : T = (if false then V.mailbox 11 r else V.namedO 11 r) := by rw [HTF.out, HST.out]; try simp
          have hrl : (str r).size ≤ 10000 := by have := V.after_len HO.out.symm; rw [lst_length] at this; rw [str_size]; omega
          have hbr := fun w hv => branch_any false 11 (str r) w hrl hv
          rw [lst_str] at hbr
          rw [← hT2] at hbr
          have hbr2 : ∀ w, Vars w → Calls Tryz.prog 41 #[.int .i64 11, .string (str r)] w fun e w' => cmdPost T (.bool true) (.bool false) w.heap.size e w' ∧ Below w.heap.size w w' := hbr
          have HBR := Aside0.mk hbr2
          clear hT2 hbr hbr2
          go_wp2_with (first | (go_at_call 43; (with_reducible refine Calls.mono (HAF.out _) ?_); rintro e w4 ⟨rfl, h⟩; have H4 := Aside0.mk (HBX.out _ h); clear h; obtain ⟨e0, e1, e2, _, _, _⟩ := cells3 H4.out.1; unfold oRes; simp only [Option.isSome_some, Option.getD_some]) | (go_at_call 41; (with_reducible refine Calls.mono (HBR.out _ (HVX.out.go H4.out.2)) ?_); rintro e w5 ⟨h5, h⟩; have H5 := Aside0.mk ((H.out.2.trans (H4.out.2.mono H.out.2.size)).trans (h.mono (Nat.le_trans H.out.2.size H4.out.2.size))); have hz := Nat.le_trans H.out.2.size H4.out.2.size; have HZ := Aside0.mk hz; obtain ⟨k', t', n', l', d', A', N', q', bb, xs, rfl, hR, hfin⟩ := cmd_open h5; have HR := Aside0.mk hR; have HFN := Aside0.mk hfin; clear h hz h5 hR hfin; have ROW := Aside0.mk (HRO.out _ H5.out); obtain ⟨⟨c0, c1, c2, c3, c4, c5⟩, f0, f1, f2, f3, f4, f5⟩ := cells6 ROW.out))
          refine bodyPost_ret (v := .tuple #[.agg #[.int .i64 k', .string t', .bool n', .string l', .string d', .slice A' N' q'], .bool bb]) ?_ rfl ⟨?_, below6 (HB3.out.trans (H5.out.mono HB3.out.size)) (Nat.le_refl _)⟩
          · exact results_ct (by rfl) _ _ w.heap.size 26 _ (0, 0) _ rfl (row6 ROW.out) Tryz.underlying26 rfl (by kernel_rfl) _ rfl
          · have hz := HZ.out
            have hlt : w.heap.size < w3.heap.size := (Array.getElem?_eq_some_iff.1 (HRO.out w3 (Below.refl _ _))).1
            exact HFN.out _ _ (fin_R HR.out (by omega) (by omega))
      | 6, _ =>
        clear hcell
        have hT2 : T = V.tail (lst s) := by rw [HTF.out, ← H.out.1]; rfl
        have HT2 := Aside0.mk hT2
        obtain ⟨o1, ho1⟩ : ∃ o, o = V.after (lst s) noopB := ⟨_, rfl⟩
        obtain ⟨o2, ho2⟩ : ∃ o, o = V.after (lst s) vrfyB := ⟨_, rfl⟩
        have haf1 : ∀ w, Calls Tryz.prog 43 #[.string s, .string { data := #[110, 111, 111, 112, 32] }] w fun e w' => e = .returned (oRes o1) ∧ Below w.heap.size w w' := by
          intro w; rw [ho1]; exact after_any s _ w (by omega) (by decide)
        have haf2 : ∀ w, Calls Tryz.prog 43 #[.string s, .string { data := #[118, 114, 102, 121, 32] }] w fun e w' => e = .returned (oRes o2) ∧ Below w.heap.size w w' := by
          intro w; rw [ho2]; exact after_any s _ w (by omega) (by decide)
        have HA1 := Aside0.mk haf1
        have HA2 := Aside0.mk haf2
        have HO1 := Aside0.mk ho1
        have HO2 := Aside0.mk ho2
        clear hT2 haf1 haf2 ho1 ho2 hM hm
        cases o1 with
        | some r =>
          have hT3 : T = some ⟨7, [], V.noPath, []⟩ := by rw [HT2.out]; unfold V.tail; rw [← HO1.out]; rfl
          have HT3 := Aside0.mk hT3
          clear hT3
          go_wp2_with (first | (go_at_call 43; (with_reducible refine Calls.mono (HA1.out _) ?_); rintro e w4 ⟨rfl, h⟩; have H4 := Aside0.mk (H.out.2.trans (h.mono H.out.2.size)); clear h; have ROW := Aside0.mk (HRO.out _ H4.out); obtain ⟨⟨c0, c1, c2, c3, c4, c5⟩, f0, f1, f2, f3, f4, f5⟩ := cells6 ROW.out; unfold oRes; simp only [Option.isSome_some, Option.getD_some]))
          refine bodyPost_ret (v := .tuple #[cval ⟨7, [], V.noPath, []⟩ noSl, .bool true]) ?_ rfl ⟨?_, below6 (HB3.out.trans (H4.out.mono HB3.out.size)) (Nat.le_refl _)⟩
          · exact results_ct (by rfl) _ _ w.heap.size 26 _ (0, 0) _ rfl (row6 ROW.out) Tryz.underlying26 rfl (by kernel_rfl) _ rfl
          · rw [HT3.out]
            exact ⟨noSl, rfl, Kd.R_nil _ _ _ _ _, by simp⟩
        | none =>
          cases o2 with
          | none =>
            have hT3 : T = none := by rw [HT2.out]; unfold V.tail; rw [← HO1.out, ← HO2.out]; rfl
            have HT3 := Aside0.mk hT3
            clear hT3
            go_wp2_with (first | (go_at_call 43; (with_reducible refine Calls.mono (HA1.out _) ?_); rintro e w4 ⟨rfl, h⟩; have H4 := Aside0.mk (H.out.2.trans (h.mono H.out.2.size)); clear h; unfold oRes; simp only [Option.isSome_none, Option.getD_none]) | (go_at_call 43; (with_reducible refine Calls.mono (HA2.out _) ?_); rintro e w5 ⟨rfl, h⟩; have H5 := Aside0.mk (H4.out.trans (h.mono H4.out.size)); clear h; have ROW := Aside0.mk (HRO.out _ H5.out); obtain ⟨⟨c0, c1, c2, c3, c4, c5⟩, f0, f1, f2, f3, f4, f5⟩ := cells6 ROW.out; unfold oRes; simp only [Option.isSome_none, Option.getD_none]))
            refine bodyPost_ret (v := .tuple #[cval V.noCmd noSl, .bool false]) ?_ rfl ⟨by rw [HT3.out]; rfl, below6 (HB3.out.trans (H5.out.mono HB3.out.size)) (Nat.le_refl _)⟩
            exact results_ct (by rfl) _ _ w.heap.size 26 _ (0, 0) _ rfl (row6 ROW.out) Tryz.underlying26 rfl (by kernel_rfl) _ rfl
          | some r =>
            have hem : (str r).toList.isEmpty = r.isEmpty := by rw [emp_str, lst_str]
            cases hr : r.isEmpty with
            | true =>
              have hT3 : T = none := by rw [HT2.out]; unfold V.tail; rw [← HO1.out, ← HO2.out]; show (if r.isEmpty = true then none else _) = _; rw [hr]; rfl
              have HT3 := Aside0.mk hT3
              rw [hr] at hem
              clear hT3 hr
              go_wp2_with (first | (go_at_call 43; (with_reducible refine Calls.mono (HA1.out _) ?_); rintro e w4 ⟨rfl, h⟩; have H4 := Aside0.mk (H.out.2.trans (h.mono H.out.2.size)); clear h; unfold oRes; simp only [Option.isSome_none, Option.getD_none]) | (go_at_call 43; (with_reducible refine Calls.mono (HA2.out _) ?_); rintro e w5 ⟨rfl, h⟩; have H5 := Aside0.mk (H4.out.trans (h.mono H4.out.size)); clear h; have ROW := Aside0.mk (HRO.out _ H5.out); obtain ⟨⟨c0, c1, c2, c3, c4, c5⟩, f0, f1, f2, f3, f4, f5⟩ := cells6 ROW.out; unfold oRes; simp only [Option.isSome_some, Option.getD_some]))
              refine bodyPost_ret (v := .tuple #[cval V.noCmd noSl, .bool false]) ?_ rfl ⟨by rw [HT3.out]; rfl, below6 (HB3.out.trans (H5.out.mono HB3.out.size)) (Nat.le_refl _)⟩
              exact results_ct (by rfl) _ _ w.heap.size 26 _ (0, 0) _ rfl (row6 ROW.out) Tryz.underlying26 rfl (by kernel_rfl) _ rfl
            | false =>
              have hT3 : T = some ⟨6, r, V.noPath, []⟩ := by rw [HT2.out]; unfold V.tail; rw [← HO1.out, ← HO2.out]; show (if r.isEmpty = true then none else _) = _; rw [hr]; rfl
              have HT3 := Aside0.mk hT3
              rw [hr] at hem
              clear hT3 hr
              go_wp2_with (first | (go_at_call 43; (with_reducible refine Calls.mono (HA1.out _) ?_); rintro e w4 ⟨rfl, h⟩; have H4 := Aside0.mk (H.out.2.trans (h.mono H.out.2.size)); clear h; unfold oRes; simp only [Option.isSome_none, Option.getD_none]) | (go_at_call 43; (with_reducible refine Calls.mono (HA2.out _) ?_); rintro e w5 ⟨rfl, h⟩; have H5 := Aside0.mk (H4.out.trans (h.mono H4.out.size)); clear h; have ROW := Aside0.mk (HRO.out _ H5.out); obtain ⟨⟨c0, c1, c2, c3, c4, c5⟩, f0, f1, f2, f3, f4, f5⟩ := cells6 ROW.out; unfold oRes; simp only [Option.isSome_some, Option.getD_some]))
              refine bodyPost_ret (v := .tuple #[cval ⟨6, r, V.noPath, []⟩ noSl, .bool true]) ?_ rfl ⟨?_, below6 (HB3.out.trans (H5.out.mono HB3.out.size)) (Nat.le_refl _)⟩
              · exact results_ct (by rfl) _ _ w.heap.size 26 _ (0, 0) _ rfl (row6 ROW.out) Tryz.underlying26 rfl (by kernel_rfl) _ rfl
              · rw [HT3.out]
                exact ⟨noSl, rfl, Kd.R_nil _ _ _ _ _, by simp⟩
      | n + 7, h => omega
end Go.Proofs.YteiknmcmaemcoaaGreatDoor
