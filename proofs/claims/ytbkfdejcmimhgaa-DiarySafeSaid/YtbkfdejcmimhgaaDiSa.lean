/- Ahead of DiaryRenews: a great record, a renewed diary. -/
import Derived.Test.YtbkfdejcmimhgaaProg
import Derived.WalkKit
import Derived.WalkLawsBesides
import Derived.Outline
import Derived.LoopTactic
import Derived.Lib.Hide
import Derived.Deep.QuietTactic
import Derived.BigQuiet
import Derived.Deep.LoopGhost
import Derived.Deep.DeepCutAuto
import Derived.Deep.CutBlock
import Derived.Deep.RegionHeld3
import Derived.Deep.RegionWith
import Derived.Deep.WholeRow
import Derived.Laws.Rows
import Derived.Laws.Tables
import Derived.Laws.ResultCell
import Derived.StillTailTactics
import Derived.Deep.DeepMust
import Derived.IntWalk
import Derived.KernelRfl
import Derived.Test.YtbkfdejcmimhgaaWWords
import Derived.Test.YtbkfdejcmimhgaaWLast
import Derived.Test.YtbkfdejcmimhgaaWMore
import Derived.RegionTactic
import Derived.Test.YtbkfdejcmimhgaaDiQa
import Derived.Test.YtbkfdejcmimhgaaSame
namespace Go.Proofs.Ytbkfdejcmimhgaa
open Go.RowKit Go.Proofs.YtbkfdejcmimhgaaW.PrintWords Go.Proofs.YtbkfdejcmimhgaaW.PrintMore Go.Proofs.Ytbkfdejcmimhgaa.PDiaryExact
set_option linter.unusedVariables false
set_option linter.unusedSimpArgs false
theorem make_big : ∃ M : Nat, M = 131072 ∧ ∀ W : World, (Instr.makeSlice 34 (.int .i64 131072) (.int .i64 131072)).run Try.prog W = .ok (.slice (some ⟨W.heap.size, 0, none⟩) M M) (W.alloc (.cells (madeCells #[.int .u8 0] M) 5)) :=
  ⟨(131072 : Int).toNat, by decide, print_make_int 34 5 (.int .u8 0) 1 Try.underlying34 (by kernel_rfl) rfl (by decide) 131072 (by decide) (by decide)⟩
def bigR (M : Nat) : S39 := { z39 with f7 := List.replicate M 0 }
theorem C_made {W : World} {b M : Nat} (h : W.heap[b]? = some (.cells (madeCells #[.int .u8 0] M) 5 (0, 0))) (hM : M ≤ 1000000) : (Kd.int .u8).C W (some ⟨b, 0, none⟩) M (List.replicate M 0) := by
  refine ⟨by simp, by omega, fun _ => ⟨_, rfl, fun j p hp => ?_⟩⟩
  obtain ⟨hj, hp2⟩ := List.getElem?_eq_some_iff.1 hp
  have hj' : j < M := by simpa using hj
  obtain rfl : 0 = p := by simpa using hp2
  refine ⟨[.int .u8 0], rfl, rfl, fun i u hu => ?_⟩
  have hi : i = 0 := by
    have := (List.getElem?_eq_some_iff.1 hu).1
    simp at this; exact this
  subst hi
  obtain rfl : Value.int .u8 0 = u := by simpa using hu
  have hc : (madeCells #[.int .u8 0] M)[j]? = some (Value.int .u8 0) := by
    rw [← Array.getElem?_toList, toList_madeCells_one]
    simp [hj']
  have := rc_cell h j _ hc
  rw [show (⟨b, 0, none⟩ : Addr).add (j * (Kd.int .u8).sz + 0) = ⟨b, j, none⟩ from by rw [show (Kd.int .u8).sz = 1 from rfl]; simp [Addr.add]; exact fun e => e.symm]
  exact this
abbrev bigCs (b M : Nat) : Array Value := #[.int .i64 0, .bool false, .string { data := #[] }, .string { data := #[] }, .slice none 0 0, .slice none 0 0, .bool false, .string { data := #[] }, .int .i64 0, .int .i64 0, .slice none 0 0, .int .i64 0, .int .i64 0, .int .i64 0, .slice (some ⟨b, 0, none⟩) M M]
theorem big_K {W : World} {b M : Nat} (h : W.heap[b]? = some (.cells (madeCells #[.int .u8 0] M) 5 (0, 0))) (hM : M ≤ 1000000) : k39.K W (bigR M) (bigCs b M).toList := by
  have e : (bigR M).f7.length = M := by simp [bigR]
  have hC : (Kd.int .u8).C W (some ⟨b, 0, none⟩) (bigR M).f7.length (bigR M).f7 := by rw [e]; exact C_made h hM
  have := k39_mk W (bigR M) (Nat.le_refl 0) (Kd.C_nil _ _) (Nat.le_refl 0) (Kd.C_nil _ _) (Nat.le_refl 0) (Kd.C_nil _ _) (Nat.le_refl _) hC
  rw [e] at this
  exact this
theorem C_row1 {W : World} {b : Nat} {x : S39} {cs : Array Value} (h : W.heap[b]? = some (.cells cs 39 (0, 0))) (hK : k39.K W x cs.toList) : k39.C W (some ⟨b, 0, none⟩) 1 [x] := by
  refine ⟨rfl, by decide, fun _ => ⟨_, rfl, fun j p hp => ?_⟩⟩
  have hj : j = 0 := by
    have := (List.getElem?_eq_some_iff.1 hp).1
    simp at this; exact this
  subst hj
  obtain rfl : x = p := by simpa using hp
  refine ⟨cs.toList, k39.K_len hK, hK, fun i u hu => ?_⟩
  rw [Nat.zero_mul, Nat.zero_add]
  have hu' : cs[i]? = some u := by simpa using hu
  have := rc_cell h i u hu'
  rw [show (⟨b, 0, none⟩ : Addr).add i = ⟨b, i, none⟩ from by simp [Addr.add]; exact fun e => e.symm]
  exact this
theorem F_big {W : World} {b1 b3 M N : Nat} (h1 : W.heap[b1]? = some (.cells (madeCells #[.int .u8 0] M) 5 (0, 0))) (h3 : W.heap[b3]? = some (.cells (bigCs b1 M) 39 (0, 0))) (hM : M ≤ 1000000) (hb1 : N ≤ b1) (hb3 : N ≤ b3) : Kd.F k39 W (fun k => N ≤ k) (some ⟨b3, 0, none⟩) [bigR M].length [bigR M] := fun W' hW =>
  C_row1 ((hW b3 hb3 (Array.getElem?_eq_some_iff.1 h3).1).trans h3) (big_K ((hW b1 hb1 (Array.getElem?_eq_some_iff.1 h1).1).trans h1) hM)
theorem big_rooms (M : Nat) (hM : M = 131072) : roomsOf [bigR M] = 131176 := by
  show room (bigR M) + 0 = _
  unfold room
  have e : (bigR M).f7.length = M := by simp [bigR]
  rw [e]
  show 24 + (M : Int) + 0 + 0 + 80 * (1 + 0) + 8 * 0 + 0 = 131176
  omega
theorem big_fine (M : Nat) (hM : M ≤ 1000000) : Fine [bigR M] := Fine.one ⟨Nat.zero_le _, Nat.zero_le _, Nat.zero_le _, by simpa [bigR] using hM⟩ (Nat.zero_le _)
theorem renew_far (B N : Nat) (W : World) (g : Nat) (s s' : DSt) (l : List S39) (A : Option Addr) (c : Nat) (r : Int) (hs : s.renew l = (r, s')) (h : Dy W (fun k => B ≤ k ∧ k < N) g s) (hB : B ≤ N) (hN : N ≤ W.heap.size) (hV : Kd.F k39 W (fun k => N ≤ k) A l.length l) (hc : l.length ≤ c) (hF : Fine l) (hl : l.length ≤ 1000000) (hok : s.Ok) (ha : s.Armed) : Calls Try.prog 26 #[.pointer (some ⟨g, 0, none⟩), .slice A l.length c] W fun e w' => e = .returned (.int .i64 r) ∧ Db B w' g s' ∧ Below B W w' := by
  refine (drenew W (fun k => B ≤ k ∧ k < N) (fun k => N ≤ k) g s l A c h (fun k hk => Nat.lt_of_lt_of_le hk.2 hN) hV (fun k hk hk2 => by have := hk2.2; omega) hc hF hl hok ha).mono ?_
  rintro e w ⟨rfl, h1, h2⟩
  rw [hs] at h1 ⊢
  exact ⟨rfl, h1.mono (fun k hk => hk.elim (fun h => h.1) (fun h => by omega)), h2.behind (by omega) (fun k hk => hk.1)⟩
theorem renew_rm2 (l k : List S39) (lim : Int) (i : Nat) (h : ¬ lim < roomsOf k) : (rmS l lim i).renew k = (0, rmT k lim) := by
  unfold DSt.renew
  rw [if_neg (show ¬ (rmS l lim i).off = true by show ¬ (false = true); decide), if_neg (show ¬ (rmS l lim i).limit < roomsOf k from h)]
  rfl
theorem renew_full2 (l k : List S39) (lim : Int) (i : Nat) (h : lim < roomsOf k) : (rmS l lim i).renew k = (8, rmS l lim i) := by
  unfold DSt.renew
  rw [if_neg (show ¬ (rmS l lim i).off = true by show ¬ (false = true); decide), if_pos (show (rmS l lim i).limit < roomsOf k from h)]
theorem renewbig_at (B : Nat) (wr : World) (g1 : Nat) (l : List S39) (i M : Nat) (hM : M = 131072) (hD : Db B wr g1 (rmS l 131072 i)) (hB : B ≤ wr.heap.size) (hok : (rmS l 131072 i).Ok) (har : (rmS l 131072 i).Armed) : Calls Try.prog 26 #[.pointer (some ⟨g1, 0, none⟩), .slice (some ⟨wr.heap.size + 1 + 1, 0, none⟩) 1 1] (((wr.alloc (.cells (madeCells #[.int .u8 0] M) 5)).alloc (.cells (bigCs wr.heap.size M) 39)).alloc (.cells (bigCs wr.heap.size M) 39)) fun e w' => e = .returned (.int .i64 8) ∧ Db B w' g1 (rmS l 131072 i) ∧ Below B wr w' := by
  obtain ⟨W1, hW1⟩ : ∃ W1, W1 = wr.alloc (.cells (madeCells #[.int .u8 0] M) 5) := ⟨_, rfl⟩
  obtain ⟨W2, hW2⟩ : ∃ W2, W2 = W1.alloc (.cells (bigCs wr.heap.size M) 39) := ⟨_, rfl⟩
  obtain ⟨W3, hW3⟩ : ∃ W3, W3 = W2.alloc (.cells (bigCs wr.heap.size M) 39) := ⟨_, rfl⟩
  rw [← hW1, ← hW2, ← hW3]
  have z1 : W1.heap.size = wr.heap.size + 1 := by rw [hW1]; simp
  have z2 : W2.heap.size = wr.heap.size + 1 + 1 := by rw [hW2, alloc_size, z1]
  have b1 : Below wr.heap.size wr W1 := by rw [hW1]; exact (Below.refl _ _).alloc (Nat.le_refl _) _
  have b2 : Below W1.heap.size W1 W2 := by rw [hW2]; exact (Below.refl _ _).alloc (Nat.le_refl _) _
  have b3 : Below W2.heap.size W2 W3 := by rw [hW3]; exact (Below.refl _ _).alloc (Nat.le_refl _) _
  have b12 : Below W1.heap.size W1 W3 := b2.trans (b3.mono b2.size)
  have b13 : Below wr.heap.size wr W3 := b1.trans (b12.mono b1.size)
  have h1 : W3.heap[wr.heap.size]? = some (.cells (madeCells #[.int .u8 0] M) 5 (0, 0)) := keep_blk (by rw [hW1]; exact heap_alloc_new _ _) b12
  have h3 : W3.heap[wr.heap.size + 1 + 1]? = some (.cells (bigCs wr.heap.size M) 39 (0, 0)) := by rw [← z2, hW3]; exact heap_alloc_new _ _
  have hl : ([bigR M] : List S39).length = 1 := rfl
  refine (renew_far B wr.heap.size W3 g1 (rmS l 131072 i) _ [bigR M] (some ⟨wr.heap.size + 1 + 1, 0, none⟩) 1 8 (renew_full2 l [bigR M] 131072 i (by rw [big_rooms M hM]; decide)) ((Dy.bound hD).below b13) hB b13.size (F_big h1 h3 (by omega) (Nat.le_refl _) (by omega)) (Nat.le_refl _) (big_fine M (by omega)) (by rw [hl]; decide) hok har).mono ?_
  rintro e w ⟨rfl, h4, h5⟩
  exact ⟨rfl, h4, (b13.mono hB).trans h5⟩
def rmU (k : List S39) (lim : Int) : DSt := ⟨lim, k, k.length, true, 1, 0, 0, 0⟩
def rmV (k : List S39) (lim : Int) : DSt := ⟨lim, k, k.length, false, 1, 0, 0, 0⟩
theorem ok_rmT (k : List S39) (lim : Int) (hl : k.length ≤ 60) : (rmT k lim).Ok := by
  unfold DSt.Ok rmT
  simp only []
  omega
theorem crash_rmT (k : List S39) (lim keep : Int) : (rmT k lim).crash keep = rmU k lim := by
  have h3 : (rmT k lim).stay keep = 0 := by
    unfold DSt.stay rmT
    simp only []
    omega
  unfold DSt.crash
  rw [if_neg (show ¬ (rmT k lim).off = true by show ¬ (false = true); decide), h3]
  show DSt.mk lim (k.take ((k.length : Int) + 0).toNat) _ true (0 + 1) 0 0 (0 + 0) = _
  have e : ((k.length : Int) + 0).toNat = k.length := by omega
  rw [e, List.take_length]
  show DSt.mk lim k ((k.length : Int) + 0) true (0 + 1) 0 0 (0 + 0) = _
  rw [Int.add_zero]
  rfl
theorem startU_at (B : Nat) (W : World) (g : Nat) (k : List S39) (lim : Int) (h : Db B W g (rmU k lim)) (hB : B ≤ W.heap.size) : Calls Try.prog 16 #[.pointer (some ⟨g, 0, none⟩)] W fun e w' => (∃ v, e = .returned v) ∧ Db B w' g (rmV k lim) ∧ Below B W w' := start_at B W g (rmU k lim) h hB
theorem readV_at (B : Nat) (W : World) (g : Nat) (k : List S39) (lim : Int) (h : Db B W g (rmV k lim)) (hF : Fine k) (hl : k.length ≤ 60) : Calls Try.prog 17 #[.pointer (some ⟨g, 0, none⟩)] W fun e w' => ∃ A c, e = .returned (.tuple #[.slice A k.length c, .int .i64 0]) ∧ k39.C w' A k.length k ∧ k.length ≤ c ∧ Below W.heap.size W w' := by
  refine (dread_yes W _ g (rmV k lim) h rfl hF (by show k.length ≤ 1000000; omega)).mono ?_
  rintro e w ⟨v, rfl, h1, h2⟩
  obtain ⟨A, c, rfl⟩ := Kd.N_slice h1
  have hr := Kd.N_reads' h1
  exact ⟨A, c, rfl, hr.2.2, hr.2.1, h2⟩
end Go.Proofs.Ytbkfdejcmimhgaa
