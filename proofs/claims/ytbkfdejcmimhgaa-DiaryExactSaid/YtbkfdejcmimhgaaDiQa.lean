/- Ahead of DiaryRooms: records that are put one by one. -/
import Derived.Test.YtbkfdejcmimhgaaProg
import Derived.WalkKit
import Derived.WalkLawsBesides
import Derived.Outline
import Derived.LoopTactic
import Derived.Lib.Hide
import Derived.Deep.QuietTactic
import Derived.BigQuiet
import Derived.Deep.LoopGhost
import Derived.Deep.DeepCutAuto
import Derived.Deep.CutBlock
import Derived.Deep.RegionHeld3
import Derived.Deep.RegionWith
import Derived.Deep.WholeRow
import Derived.Laws.Rows
import Derived.Laws.Tables
import Derived.Laws.ResultCell
import Derived.StillTailTactics
import Derived.Deep.DeepMust
import Derived.IntWalk
import Derived.KernelRfl
import Derived.Test.YtbkfdejcmimhgaaVa
import Derived.RegionTactic
import Derived.Test.YtbkfdejcmimhgaaDiP
namespace Go.Proofs.Ytbkfdejcmimhgaa
open Go.RowKit Go.Proofs.YtbkfdejcmimhgaaW.PrintWords Go.Proofs.YtbkfdejcmimhgaaW.PrintMore Go.Proofs.Ytbkfdejcmimhgaa.PDiaryExact
set_option linter.unusedVariables false
set_option linter.unusedSimpArgs false
def rmS (l : List S39) (lim : Int) (i : Nat) : DSt := ⟨lim, l.take i, 0, false, 0, 0, 0, 0⟩
def rmT (l : List S39) (lim : Int) : DSt := ⟨lim, l, l.length, false, 0, 0, 0, 0⟩
theorem take_put (l : List S39) (i : Nat) (x : S39) (h : l[i]? = some x) : l.take i ++ [x] = l.take (i + 1) := by
  rw [List.take_add_one, h]; rfl
theorem rooms_next (l : List S39) (i : Nat) (x : S39) (h : l[i]? = some x) : roomsOf (l.take (i + 1)) = roomsOf (l.take i) + room x := by
  rw [← take_put l i x h, roomsOf_append]
  show _ + (room x + 0) = _
  omega
theorem rooms_split (l : List S39) (i : Nat) : roomsOf l = roomsOf (l.take i) + roomsOf (l.drop i) := by
  rw [← roomsOf_append, List.take_append_drop]
theorem rooms_some (l : List S39) (h : 0 < l.length) : 104 ≤ roomsOf l := by
  cases l with
  | nil => simp at h
  | cons x t =>
    have h1 := room_pos x
    have h2 := roomsOf_nonneg t
    show 104 ≤ room x + roomsOf t
    omega
theorem less_eq (n : Int) : wrap64 ((IntKind.u64.wrap n).tmod 2) = 0 ∨ wrap64 ((IntKind.u64.wrap n).tmod 2) = 1 := by
  have h0 : 0 ≤ IntKind.u64.wrap n := by
    show 0 ≤ n % 2 ^ 64
    omega
  have e : (IntKind.u64.wrap n).tmod 2 = (IntKind.u64.wrap n) % 2 := Int.tmod_eq_emod_of_nonneg h0
  rw [e]
  generalize IntKind.u64.wrap n = y
  unfold wrap64
  omega
theorem put_rm (l : List S39) (lim : Int) (i : Nat) (x : S39) (hx : l[i]? = some x) (h : ¬ lim - roomsOf (l.take i) < room x) : (rmS l lim i).put x = (0, rmS l lim (i + 1)) := by
  have e := put_fits (rmS l lim i) x rfl rfl h
  rw [e]
  show (0, DSt.mk _ (l.take i ++ [x]) _ _ _ _ _ _) = _
  rw [take_put l i x hx]
  rfl
theorem put_rm_full (l : List S39) (lim : Int) (i : Nat) (x : S39) (h : lim - roomsOf (l.take i) < room x) : (rmS l lim i).put x = (8, rmS l lim i) := put_full _ x rfl h
theorem ok_rm (l : List S39) (lim : Int) (i : Nat) (hl : l.length ≤ 60) : (rmS l lim i).Ok := by
  unfold DSt.Ok rmS
  simp only [List.length_take]
  omega
theorem ar_rm (l : List S39) (lim : Int) (i : Nat) : (rmS l lim i).Armed := ⟨Int.le_refl _, by show (0 : Int) ≤ _; omega⟩
theorem renew_rm_full (l : List S39) (lim : Int) (i : Nat) (h : lim < roomsOf l) : (rmS l lim i).renew l = (8, rmS l lim i) := by
  unfold DSt.renew
  rw [if_neg (show ¬ (rmS l lim i).off = true by show ¬ (false = true); decide), if_pos (show (rmS l lim i).limit < roomsOf l from h)]
theorem renew_rm (l : List S39) (lim : Int) (i : Nat) (h : ¬ lim < roomsOf l) : (rmS l lim i).renew l = (0, rmT l lim) := by
  unfold DSt.renew
  rw [if_neg (show ¬ (rmS l lim i).off = true by show ¬ (false = true); decide), if_neg (show ¬ (rmS l lim i).limit < roomsOf l from h)]
  rfl
theorem len_rm (l : List S39) (i : Nat) (hl : l.length ≤ 60) : (l.take i).length < 1000000 := by rw [List.length_take]; omega
theorem room_rec (x : S39) (v4 v5 v10 v14 : Value) (rm : Int) (W : World) (hr : rm = room x) (hK : k39.K W x (recs15 x v4 v5 v10 v14).toList) (hs : Small x) : Calls Try.prog 21 #[.agg (recs15 x v4 v5 v10 v14)] W fun e w' => e = .returned (.int .i64 rm) ∧ Below W.heap.size W w' := droom_at x (recs15 x v4 v5 v10 v14).toList rm W hr hK hs.lite hs.helo
theorem new_rm (B : Nat) (l : List S39) (n : Int) (h1 : 1 ≤ n) (h2 : n ≤ 131072) (w : World) (hB : B ≤ w.heap.size) : Calls Try.prog 11 #[.int .i64 n] w fun e w' => e = .returned (.tuple #[.pointer (some ⟨w.heap.size, 0, none⟩), .int .i64 0]) ∧ Db B w' w.heap.size (rmS l n 0) ∧ Below w.heap.size w w' := new_at B n h1 h2 w hB
end Go.Proofs.Ytbkfdejcmimhgaa
