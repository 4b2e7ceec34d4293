/- The walk of DiaryRenews. -/
import Derived.Test.YtbkfdejcmimhgaaProg
import Derived.WalkKit
import Derived.WalkLawsBesides
import Derived.Outline
import Derived.LoopTactic
import Derived.Lib.Hide
import Derived.Deep.QuietTactic
import Derived.BigQuiet
import Derived.Deep.LoopGhost
import Derived.Deep.DeepCutAuto
import Derived.Deep.CutBlock
import Derived.Deep.RegionHeld3
import Derived.Deep.RegionWith
import Derived.Deep.WholeRow
import Derived.Laws.Rows
import Derived.Laws.Tables
import Derived.Laws.ResultCell
import Derived.StillTailTactics
import Derived.Deep.DeepMust
import Derived.IntWalk
import Derived.KernelRfl
import Derived.Test.YtbkfdejcmimhgaaWWords
import Derived.Test.YtbkfdejcmimhgaaWLast
import Derived.Test.YtbkfdejcmimhgaaWMore
import Derived.RegionTactic
import Derived.Test.YtbkfdejcmimhgaaDiQ
import Derived.Test.YtbkfdejcmimhgaaSame
namespace Go.Proofs.Ytbkfdejcmimhgaa
open Go.RowKit Go.Proofs.YtbkfdejcmimhgaaW.PrintWords Go.Proofs.YtbkfdejcmimhgaaW.PrintMore Go.Proofs.Ytbkfdejcmimhgaa.PDiaryExact
set_option linter.unusedVariables false
set_option linter.unusedSimpArgs false
theorem make_big : ∃ M : Nat, M = 131072 ∧ ∀ W : World, (Instr.makeSlice 34 (.int .i64 131072) (.int .i64 131072)).run Try.prog W = .ok (.slice (some ⟨W.heap.size, 0, none⟩) M M) (W.alloc (.cells (madeCells #[.int .u8 0] M) 5)) :=
  ⟨(131072 : Int).toNat, by decide, print_make_int 34 5 (.int .u8 0) 1 Try.underlying34 (by kernel_rfl) rfl (by decide) 131072 (by decide) (by decide)⟩
def bigR (M : Nat) : S39 := { z39 with f7 := List.replicate M 0 }
theorem C_made {W : World} {b M : Nat} (h : W.heap[b]? = some (.cells (madeCells #[.int .u8 0] M) 5 (0, 0))) (hM : M ≤ 1000000) : (Kd.int .u8).C W (some ⟨b, 0, none⟩) M (List.replicate M 0) := by
  refine ⟨by simp, by omega, fun _ => ⟨_, rfl, fun j p hp => ?_⟩⟩
  obtain ⟨hj, hp2⟩ := List.getElem?_eq_some_iff.1 hp
  have hj' : j < M := by simpa using hj
  obtain rfl : 0 = p := by simpa using hp2
  refine ⟨[.int .u8 0], rfl, rfl, fun i u hu => ?_⟩
  have hi : i = 0 := by
    have := (List.getElem?_eq_some_iff.1 hu).1
    simp at this; exact this
  subst hi
  obtain rfl : Value.int .u8 0 = u := by simpa using hu
  have hc : (madeCells #[.int .u8 0] M)[j]? = some (Value.int .u8 0) := by
    rw [← Array.getElem?_toList, toList_madeCells_one]
    simp [hj']
  have := rc_cell h j _ hc
  rw [show (⟨b, 0, none⟩ : Addr).add (j * (Kd.int .u8).sz + 0) = ⟨b, j, none⟩ from by rw [show (Kd.int .u8).sz = 1 from rfl]; simp [Addr.add]; exact fun e => e.symm]
  exact this
abbrev bigCs (b M : Nat) : Array Value := #[.int .i64 0, .bool false, .string { data := #[] }, .string { data := #[] }, .slice none 0 0, .slice none 0 0, .bool false, .string { data := #[] }, .int .i64 0, .int .i64 0, .slice none 0 0, .int .i64 0, .int .i64 0, .int .i64 0, .slice (some ⟨b, 0, none⟩) M M]
theorem big_K {W : World} {b M : Nat} (h : W.heap[b]? = some (.cells (madeCells #[.int .u8 0] M) 5 (0, 0))) (hM : M ≤ 1000000) : k39.K W (bigR M) (bigCs b M).toList := by
  have e : (bigR M).f7.length = M := by simp [bigR]
  have hC : (Kd.int .u8).C W (some ⟨b, 0, none⟩) (bigR M).f7.length (bigR M).f7 := by rw [e]; exact C_made h hM
  have := k39_mk W (bigR M) (Nat.le_refl 0) (Kd.C_nil _ _) (Nat.le_refl 0) (Kd.C_nil _ _) (Nat.le_refl 0) (Kd.C_nil _ _) (Nat.le_refl _) hC
  rw [e] at this
  exact this
theorem C_row1 {W : World} {b : Nat} {x : S39} {cs : Array Value} (h : W.heap[b]? = some (.cells cs 39 (0, 0))) (hK : k39.K W x cs.toList) : k39.C W (some ⟨b, 0, none⟩) 1 [x] := by
  refine ⟨rfl, by decide, fun _ => ⟨_, rfl, fun j p hp => ?_⟩⟩
  have hj : j = 0 := by
    have := (List.getElem?_eq_some_iff.1 hp).1
    simp at this; exact this
  subst hj
  obtain rfl : x = p := by simpa using hp
  refine ⟨cs.toList, k39.K_len hK, hK, fun i u hu => ?_⟩
  rw [Nat.zero_mul, Nat.zero_add]
  have hu' : cs[i]? = some u := by simpa using hu
  have := rc_cell h i u hu'
  rw [show (⟨b, 0, none⟩ : Addr).add i = ⟨b, i, none⟩ from by simp [Addr.add]; exact fun e => e.symm]
  exact this
theorem F_big {W : World} {b1 b3 M N : Nat} (h1 : W.heap[b1]? = some (.cells (madeCells #[.int .u8 0] M) 5 (0, 0))) (h3 : W.heap[b3]? = some (.cells (bigCs b1 M) 39 (0, 0))) (hM : M ≤ 1000000) (hb1 : N ≤ b1) (hb3 : N ≤ b3) : Kd.F k39 W (fun k => N ≤ k) (some ⟨b3, 0, none⟩) [bigR M].length [bigR M] := fun W' hW =>
  C_row1 ((hW b3 hb3 (Array.getElem?_eq_some_iff.1 h3).1).trans h3) (big_K ((hW b1 hb1 (Array.getElem?_eq_some_iff.1 h1).1).trans h1) hM)
theorem big_rooms (M : Nat) (hM : M = 131072) : roomsOf [bigR M] = 131176 := by
  show room (bigR M) + 0 = _
  unfold room
  have e : (bigR M).f7.length = M := by simp [bigR]
  rw [e]
  show 24 + (M : Int) + 0 + 0 + 80 * (1 + 0) + 8 * 0 + 0 = 131176
  omega
theorem big_fine (M : Nat) (hM : M ≤ 1000000) : Fine [bigR M] := Fine.one ⟨Nat.zero_le _, Nat.zero_le _, Nat.zero_le _, by simpa [bigR] using hM⟩ (Nat.zero_le _)
theorem renew_far (B N : Nat) (W : World) (g : Nat) (s s' : DSt) (l : List S39) (A : Option Addr) (c : Nat) (r : Int) (hs : s.renew l = (r, s')) (h : Dy W (fun k => B ≤ k ∧ k < N) g s) (hB : B ≤ N) (hN : N ≤ W.heap.size) (hV : Kd.F k39 W (fun k => N ≤ k) A l.length l) (hc : l.length ≤ c) (hF : Fine l) (hl : l.length ≤ 1000000) (hok : s.Ok) (ha : s.Armed) : Calls Try.prog 26 #[.pointer (some ⟨g, 0, none⟩), .slice A l.length c] W fun e w' => e = .returned (.int .i64 r) ∧ Db B w' g s' ∧ Below B W w' := by
  refine (drenew W (fun k => B ≤ k ∧ k < N) (fun k => N ≤ k) g s l A c h (fun k hk => Nat.lt_of_lt_of_le hk.2 hN) hV (fun k hk hk2 => by have := hk2.2; omega) hc hF hl hok ha).mono ?_
  rintro e w ⟨rfl, h1, h2⟩
  rw [hs] at h1 ⊢
  exact ⟨rfl, h1.mono (fun k hk => hk.elim (fun h => h.1) (fun h => by omega)), h2.behind (by omega) (fun k hk => hk.1)⟩
theorem renew_rm2 (l k : List S39) (lim : Int) (i : Nat) (h : ¬ lim < roomsOf k) : (rmS l lim i).renew k = (0, rmT k lim) := by
  unfold DSt.renew
  rw [if_neg (show ¬ (rmS l lim i).off = true by show ¬ (false = true); decide), if_neg (show ¬ (rmS l lim i).limit < roomsOf k from h)]
  rfl
theorem renew_full2 (l k : List S39) (lim : Int) (i : Nat) (h : lim < roomsOf k) : (rmS l lim i).renew k = (8, rmS l lim i) := by
  unfold DSt.renew
  rw [if_neg (show ¬ (rmS l lim i).off = true by show ¬ (false = true); decide), if_pos (show (rmS l lim i).limit < roomsOf k from h)]
theorem renewbig_at (B : Nat) (wr : World) (g1 : Nat) (l : List S39) (i M : Nat) (hM : M = 131072) (hD : Db B wr g1 (rmS l 131072 i)) (hB : B ≤ wr.heap.size) (hok : (rmS l 131072 i).Ok) (har : (rmS l 131072 i).Armed) : Calls Try.prog 26 #[.pointer (some ⟨g1, 0, none⟩), .slice (some ⟨wr.heap.size + 1 + 1, 0, none⟩) 1 1] (((wr.alloc (.cells (madeCells #[.int .u8 0] M) 5)).alloc (.cells (bigCs wr.heap.size M) 39)).alloc (.cells (bigCs wr.heap.size M) 39)) fun e w' => e = .returned (.int .i64 8) ∧ Db B w' g1 (rmS l 131072 i) ∧ Below B wr w' := by
  obtain ⟨W1, hW1⟩ : ∃ W1, W1 = wr.alloc (.cells (madeCells #[.int .u8 0] M) 5) := ⟨_, rfl⟩
  obtain ⟨W2, hW2⟩ : ∃ W2, W2 = W1.alloc (.cells (bigCs wr.heap.size M) 39) := ⟨_, rfl⟩
  obtain ⟨W3, hW3⟩ : ∃ W3, W3 = W2.alloc (.cells (bigCs wr.heap.size M) 39) := ⟨_, rfl⟩
  rw [← hW1, ← hW2, ← hW3]
  have z1 : W1.heap.size = wr.heap.size + 1 := by rw [hW1]; simp
  have z2 : W2.heap.size = wr.heap.size + 1 + 1 := by rw [hW2, alloc_size, z1]
  have b1 : Below wr.heap.size wr W1 := by rw [hW1]; exact (Below.refl _ _).alloc (Nat.le_refl _) _
  have b2 : Below W1.heap.size W1 W2 := by rw [hW2]; exact (Below.refl _ _).alloc (Nat.le_refl _) _
  have b3 : Below W2.heap.size W2 W3 := by rw [hW3]; exact (Below.refl _ _).alloc (Nat.le_refl _) _
  have b12 : Below W1.heap.size W1 W3 := b2.trans (b3.mono b2.size)
  have b13 : Below wr.heap.size wr W3 := b1.trans (b12.mono b1.size)
  have h1 : W3.heap[wr.heap.size]? = some (.cells (madeCells #[.int .u8 0] M) 5 (0, 0)) := keep_blk (by rw [hW1]; exact heap_alloc_new _ _) b12
  have h3 : W3.heap[wr.heap.size + 1 + 1]? = some (.cells (bigCs wr.heap.size M) 39 (0, 0)) := by rw [← z2, hW3]; exact heap_alloc_new _ _
  have hl : ([bigR M] : List S39).length = 1 := rfl
  refine (renew_far B wr.heap.size W3 g1 (rmS l 131072 i) _ [bigR M] (some ⟨wr.heap.size + 1 + 1, 0, none⟩) 1 8 (renew_full2 l [bigR M] 131072 i (by rw [big_rooms M hM]; decide)) ((Dy.bound hD).below b13) hB b13.size (F_big h1 h3 (by omega) (Nat.le_refl _) (by omega)) (Nat.le_refl _) (big_fine M (by omega)) (by rw [hl]; decide) hok har).mono ?_
  rintro e w ⟨rfl, h4, h5⟩
  exact ⟨rfl, h4, (b13.mono hB).trans h5⟩
def rmU (k : List S39) (lim : Int) : DSt := ⟨lim, k, k.length, true, 1, 0, 0, 0⟩
def rmV (k : List S39) (lim : Int) : DSt := ⟨lim, k, k.length, false, 1, 0, 0, 0⟩
theorem ok_rmT (k : List S39) (lim : Int) (hl : k.length ≤ 60) : (rmT k lim).Ok := by
  unfold DSt.Ok rmT
  simp only []
  omega
theorem crash_rmT (k : List S39) (lim keep : Int) : (rmT k lim).crash keep = rmU k lim := by
  have h3 : (rmT k lim).stay keep = 0 := by
    unfold DSt.stay rmT
    simp only []
    omega
  unfold DSt.crash
  rw [if_neg (show ¬ (rmT k lim).off = true by show ¬ (false = true); decide), h3]
  show DSt.mk lim (k.take ((k.length : Int) + 0).toNat) _ true (0 + 1) 0 0 (0 + 0) = _
  have e : ((k.length : Int) + 0).toNat = k.length := by omega
  rw [e, List.take_length]
  show DSt.mk lim k ((k.length : Int) + 0) true (0 + 1) 0 0 (0 + 0) = _
  rw [Int.add_zero]
  rfl
theorem startU_at (B : Nat) (W : World) (g : Nat) (k : List S39) (lim : Int) (h : Db B W g (rmU k lim)) (hB : B ≤ W.heap.size) : Calls Try.prog 16 #[.pointer (some ⟨g, 0, none⟩)] W fun e w' => (∃ v, e = .returned v) ∧ Db B w' g (rmV k lim) ∧ Below B W w' := start_at B W g (rmU k lim) h hB
theorem readV_at (B : Nat) (W : World) (g : Nat) (k : List S39) (lim : Int) (h : Db B W g (rmV k lim)) (hF : Fine k) (hl : k.length ≤ 60) : Calls Try.prog 17 #[.pointer (some ⟨g, 0, none⟩)] W fun e w' => ∃ A c, e = .returned (.tuple #[.slice A k.length c, .int .i64 0]) ∧ k39.C w' A k.length k ∧ k.length ≤ c ∧ Below W.heap.size W w' := by
  refine (dread_yes W _ g (rmV k lim) h rfl hF (by show k.length ≤ 1000000; omega)).mono ?_
  rintro e w ⟨v, rfl, h1, h2⟩
  obtain ⟨A, c, rfl⟩ := Kd.N_slice h1
  have hr := Kd.N_reads' h1
  exact ⟨A, c, rfl, hr.2.2, hr.2.1, h2⟩
set_option maxRecDepth 100000 in
set_option maxHeartbeats 8000000 in
theorem renews_any0 (l : List S39) (A : Option Addr) (c : Nat) (k : List S39) (Ak : Option Addr) (ck : Nat) (keep : Int) (hG : OkL Ok39 l) (hc : l.length ≤ c) (hGk : OkL Ok39 k) (hck : k.length ≤ ck) (w : World) (hC : k39.C w A l.length l) (hCk : k39.C w Ak k.length k) : Calls Try.prog 8 #[.slice A l.length c, .slice Ak k.length ck, .int .i64 keep] w fun e w' => e = .returned (.bool true) ∧ Below w.heap.size w w' := by
  obtain ⟨b, hb, hs⟩ := h18 l hG.2
  obtain ⟨bk, hbk, hsk⟩ := h18 k hGk.2
  have HB := Aside0.mk hb
  have HBK := Aside0.mk hbk
  have HCC := Aside0.mk hC
  have HCK := Aside0.mk hCk
  clear hb hbk hC hCk
  obtain ⟨B, hB⟩ : ∃ B, B = w.heap.size := ⟨_, rfl⟩
  have HBB := Aside0.mk hB
  clear hB
  cases b with
  | true =>
    clear hs hsk
    go_enter Try.func8, Try.ntmps8
    go_wp2_with (first
      | (go_at_call 10; with_reducible refine Calls.mono (heavy_any true HCC.out hc HB.out) ?_; rintro e w2 ⟨rfl, h1⟩; rw [← HBB.out] at h1; have G2 := Aside0.mk h1; have HCK2 := Aside0.mk (Kd.C_below HCK.out (by rw [← HBB.out]; exact h1)); have Z2 := Aside0.mk (show B ≤ w2.heap.size from Nat.le_trans (Nat.le_of_eq HBB.out) h1.size); clear h1))
    go_ret
    refine ⟨rfl, ?_⟩
    rw [← HBB.out]
    exact G2.out
  | false =>
  cases bk with
  | true =>
    clear hs hsk
    go_enter Try.func8, Try.ntmps8
    go_wp2_with (first
      | (go_at_call 10; with_reducible refine Calls.mono (heavy_any false HCC.out hc HB.out) ?_; rintro e w2 ⟨rfl, h1⟩; rw [← HBB.out] at h1; have G2 := Aside0.mk h1; have HCK2 := Aside0.mk (Kd.C_below HCK.out (by rw [← HBB.out]; exact h1)); have Z2 := Aside0.mk (show B ≤ w2.heap.size from Nat.le_trans (Nat.le_of_eq HBB.out) h1.size); clear h1)
      | (go_at_call 10; with_reducible refine Calls.mono (heavy_any true HCK2.out hck HBK.out) ?_; rintro e w3 ⟨rfl, h1⟩; have G3 := Aside0.mk (G2.out.trans (h1.mono Z2.out)); have Z3 := Aside0.mk (Nat.le_trans Z2.out h1.size); clear h1))
    go_ret
    refine ⟨rfl, ?_⟩
    rw [← HBB.out]
    exact G3.out
  | false =>
    have HS := Aside0.mk (hs rfl)
    have h60 : l.length ≤ 60 := HS.out.1
    have HSK := Aside0.mk (hsk rfl)
    have k60 : k.length ≤ 60 := HSK.out.1
    clear hs hsk
    have HF := Aside0.mk (fine_of_small HS.out.2)
    have HFK := Aside0.mk (fine_of_small HSK.out.2)
    have HV := Aside0.mk (show Kd.F k39 w (fun j => j < B) Ak k.length k by rw [HBB.out]; exact Kd.C_F heap39 HCK.out)
    go_enter Try.func8, Try.ntmps8
    go_wp2_with (first
      | (go_at_call 10; with_reducible refine Calls.mono (heavy_any false HCC.out hc HB.out) ?_; rintro e w2 ⟨rfl, h1⟩; rw [← HBB.out] at h1; have G2 := Aside0.mk h1; have HCK2 := Aside0.mk (Kd.C_below HCK.out (by rw [← HBB.out]; exact h1)); have Z2 := Aside0.mk (show B ≤ w2.heap.size from Nat.le_trans (Nat.le_of_eq HBB.out) h1.size); clear h1)
      | (go_at_call 10; with_reducible refine Calls.mono (heavy_any false HCK2.out hck HBK.out) ?_; rintro e w3 ⟨rfl, h1⟩; have G3 := Aside0.mk (G2.out.trans (h1.mono Z2.out)); have Z3 := Aside0.mk (Nat.le_trans Z2.out h1.size); clear h1)
      | (go_at_call 11; refine (new_rm B l 131072 (by decide) (by decide) w3 Z3.out).mono ?_; rintro e w4 ⟨rfl, h1, h2⟩; obtain ⟨g1, hg1⟩ : ∃ g1, g1 = w3.heap.size := ⟨_, rfl⟩; rw [← hg1] at h1 h2 ⊢; have D4 := Aside0.mk h1; have HW4 := Aside0.mk (G3.out.trans (h2.mono (by rw [hg1]; exact Z3.out))); clear h1 h2 hg1))
    go_loopg [9] l.length (fun g v9 wr => ∃ (i : Nat), i ≤ l.length ∧ g + i = l.length ∧ v9 = .int .i64 i ∧ Aside0 (Db B wr g1 (rmS l 131072 i)) ∧ Aside0 (Below B w wr))
    case atStart => exact ⟨0, by omega, by omega, rfl, D4, HW4⟩
    case round =>
    obtain ⟨i, hi, hg, rfl, HD, HW⟩ := hrel
    have HZ := Aside0.mk (show B ≤ wr.heap.size from Nat.le_trans (Nat.le_of_eq HBB.out) HW.out.size)
    have HOKS := Aside0.mk (ok_rm l (131072) i h60)
    have HLN := Aside0.mk (show (rmS l (131072) i).recs.length < 1000000 from len_rm l i h60)
    have HFS := Aside0.mk (show Fine (rmS l (131072) i).recs from HF.out.take i)
    have HAR := Aside0.mk (ar_rm l (131072) i)
    have HL0 := Aside0.mk (show 0 ≤ (rmS l (131072) i).limit by show 0 ≤ 131072; omega)
    have HL1 := Aside0.mk (show (rmS l (131072) i).limit ≤ 1000000 by show 131072 ≤ 1000000; omega)
    by_cases hlt : i < l.length
    · have hlt' : (i : Int) < (l.length : Int) := by omega
      obtain ⟨ad, A4, c4, A5, c5, A10, c10, A14, c14, rfl, q0, q1, q2, q3, q4, q5, q6, q7, q8, q9, q10, q11, q12, q13, q14, l4, g4, l5, g5, l10, g10, l14, g14⟩ := at_T39 (Kd.C_below HCC.out (by rw [← HBB.out]; exact HW.out)) i (by omega) (by omega)
      have ex : rd_T39 l i = l.getD i z39 := rfl
      have hxi : l[i]? = some (rd_T39 l i) := by rw [ex]; simp [List.getD_eq_getElem?_getD, hlt]
      have hxs : Small (rd_T39 l i) := by rw [ex]; exact HS.out.2 _ (by simp [List.getD_eq_getElem?_getD, hlt])
      clear ex
      simp only [Int.toNat_natCast] at q0 q1 q2 q3 q4 q5 q6 q7 q8 q9 q10 q11 q12 q13 q14
      generalize rd_T39 l i = x at *
      have HXI := Aside0.mk hxi
      have HXS := Aside0.mk hxs
      have hKx := k39_mk wr x l4 g4 l5 g5 l10 g10 l14 g14
      have HKX := Aside0.mk hKx
      clear hxs hKx hxi g4 g5 g10 g14 l4 l5 l10 l14
      by_cases hful : 131072 - roomsOf (l.take i) < room x
      · have H8 := Aside0.mk (put_rm_full l 131072 i x hful)
        clear hful
        go_wp2_with (first
          | (go_at_call 13; with_reducible refine Calls.mono (put_at B wr g1 (rmS l 131072 i) (rmS l 131072 i) x (recs15 x (.slice A4 x.f1.f1.length c4) (.slice A5 x.f1.f2.length c5) (.slice A10 x.f3.length c10) (.slice A14 x.f7.length c14)) 8 H8.out HD.out HZ.out HKX.out HXS.out.lite HXS.out.helo HOKS.out HLN.out HFS.out HAR.out HL0.out HL1.out) ?_; rintro e w5 ⟨rfl, h1, h2⟩; have D5 := Aside0.mk h1; have G5 := Aside0.mk h2; have Z5 := Aside0.mk (Nat.le_trans HZ.out h2.size); clear h1 h2 q0 q1 q2 q3 q4 q5 q6 q7 q8 q9 q10 q11 q12 q13 q14)
          | (go_at_call 14; refine (wakesD_any w5).mono ?_; rintro e w20 ⟨rfl, h1⟩; have G20 := Aside0.mk h1; clear h1))
        go_ret
        refine ⟨rfl, ?_⟩
        rw [← HBB.out]
        exact (HW.out.trans G5.out).trans (G20.out.mono Z5.out)
      · have H0 := Aside0.mk (put_rm l 131072 i x HXI.out hful)
        clear hful
        go_wp2_with (first
          | (go_at_call 13; with_reducible refine Calls.mono (put_at B wr g1 (rmS l 131072 i) (rmS l 131072 (i + 1)) x (recs15 x (.slice A4 x.f1.f1.length c4) (.slice A5 x.f1.f2.length c5) (.slice A10 x.f3.length c10) (.slice A14 x.f7.length c14)) 0 H0.out HD.out HZ.out HKX.out HXS.out.lite HXS.out.helo HOKS.out HLN.out HFS.out HAR.out HL0.out HL1.out) ?_; rintro e w5 ⟨rfl, h1, h2⟩; have D5 := Aside0.mk h1; have G5 := Aside0.mk h2; have Z5 := Aside0.mk (Nat.le_trans HZ.out h2.size); clear h1 h2 q0 q1 q2 q3 q4 q5 q6 q7 q8 q9 q10 q11 q12 q13 q14))
        go_roundg (gk - 1)
        case measure => omega
        case rel => exact ⟨i + 1, by omega, by omega, by go_num, D5, ⟨HW.out.trans G5.out⟩⟩
    have hlt' : ¬ (i : Int) < (l.length : Int) := by omega
    obtain rfl : i = l.length := by omega
    clear hlt
    obtain ⟨M, hM, hmk⟩ := make_big
    have HM := Aside0.mk hM
    clear hM
    go_upto_region 11 with (fail)
    have HLE := Aside0.mk (show ((rmS l 131072 l.length).recs.length : Int) = (l.length : Int) by show ((l.take l.length).length : Int) = _; rw [List.take_length])
    have K60 := Aside0.mk k60
    by_cases hful : 131072 < roomsOf k
    · have HRN := Aside0.mk (renew_full2 l k 131072 l.length hful)
      clear hful
      go_wp2_with (first
        | (go_at_call 26; with_reducible refine Calls.mono (renewbig_at B wr g1 l l.length M HM.out HD.out HZ.out HOKS.out HAR.out) ?_; rintro e w5 ⟨rfl, h1, h2⟩; have D5 := Aside0.mk h1; have G5 := Aside0.mk h2; have Z5 := Aside0.mk (Nat.le_trans HZ.out h2.size); clear h1 h2)
        | (go_at_call 23; refine (dlen_at w5 _ g1 (rmS l 131072 l.length) _ HLE.out D5.out).mono ?_; rintro e w8 ⟨rfl, rfl⟩)
        | (go_at_call 25; refine (dsafe_at w5 _ g1 (rmS l 131072 l.length) 0 rfl D5.out).mono ?_; rintro e w8 ⟨rfl, rfl⟩)
        | (go_at_call 26; with_reducible refine Calls.mono (renew_at B w5 g1 _ _ k Ak ck 8 HRN.out D5.out Z5.out (Kd.F_step HV.out (fun j hj _ => (HW.out.trans G5.out).block j hj)) hck HFK.out (by omega) HOKS.out HAR.out) ?_; rintro e w6 ⟨rfl, h1, h2⟩; have D6 := Aside0.mk h1; have G6 := Aside0.mk h2; have Z6 := Aside0.mk (Nat.le_trans Z5.out h2.size); clear h1 h2)
        | (go_at_call 23; refine (dlen_at w6 _ g1 (rmS l 131072 l.length) _ HLE.out D6.out).mono ?_; rintro e w8 ⟨rfl, rfl⟩)
        | (go_at_call 14; refine (wakesD_any w6).mono ?_; rintro e w20 ⟨rfl, h1⟩; have G20 := Aside0.mk h1; clear h1))
      go_ret
      refine ⟨rfl, ?_⟩
      rw [← HBB.out]
      exact ((HW.out.trans G5.out).trans G6.out).trans (G20.out.mono Z6.out)
    · have HRN := Aside0.mk (renew_rm2 l k 131072 l.length hful)
      have HCR := Aside0.mk (crash_rmT k 131072 keep)
      have HOT := Aside0.mk (ok_rmT k 131072 k60)
      clear hful
      go_wp2_with (first
        | (go_at_call 26; with_reducible refine Calls.mono (renewbig_at B wr g1 l l.length M HM.out HD.out HZ.out HOKS.out HAR.out) ?_; rintro e w5 ⟨rfl, h1, h2⟩; have D5 := Aside0.mk h1; have G5 := Aside0.mk h2; have Z5 := Aside0.mk (Nat.le_trans HZ.out h2.size); clear h1 h2)
        | (go_at_call 23; refine (dlen_at w5 _ g1 (rmS l 131072 l.length) _ HLE.out D5.out).mono ?_; rintro e w8 ⟨rfl, rfl⟩)
        | (go_at_call 25; refine (dsafe_at w5 _ g1 (rmS l 131072 l.length) 0 rfl D5.out).mono ?_; rintro e w8 ⟨rfl, rfl⟩)
        | (go_at_call 26; with_reducible refine Calls.mono (renew_at B w5 g1 _ _ k Ak ck 0 HRN.out D5.out Z5.out (Kd.F_step HV.out (fun j hj _ => (HW.out.trans G5.out).block j hj)) hck HFK.out (by omega) HOKS.out HAR.out) ?_; rintro e w6 ⟨rfl, h1, h2⟩; have D6 := Aside0.mk h1; have G6 := Aside0.mk h2; have Z6 := Aside0.mk (Nat.le_trans Z5.out h2.size); clear h1 h2)
        | (go_at_call 22; refine Calls.mono (crash_at B w6 g1 (rmT k 131072) (rmU k 131072) keep HCR.out D6.out Z6.out HOT.out) ?_; rintro e w7 ⟨⟨v7, rfl⟩, h1, h2⟩; have D7 := Aside0.mk h1; have G7 := Aside0.mk h2; have Z7 := Aside0.mk (Nat.le_trans Z6.out h2.size); clear h1 h2)
        | (go_at_call 16; refine Calls.mono (startU_at B w7 g1 k 131072 D7.out Z7.out) ?_; rintro e w8 ⟨⟨v8, rfl⟩, h1, h2⟩; have D8 := Aside0.mk h1; have G8 := Aside0.mk h2; have Z8 := Aside0.mk (Nat.le_trans Z7.out h2.size); clear h1 h2)
        | (go_at_call 17; refine Calls.mono (readV_at B w8 g1 k 131072 D8.out HFK.out K60.out) ?_; rintro e w9 ⟨A9, c9, rfl, h0, h1, h2⟩; have C9 := Aside0.mk h0; have L9 := Aside0.mk h1; have G9 := Aside0.mk (h2.mono Z8.out); have D9 := Aside0.mk (D8.out.after h2); have Z9 := Aside0.mk (Nat.le_trans Z8.out h2.size); clear h0 h1 h2)
        | (go_at_call 19; refine (recs_at w9 A9 c9 k.length Ak ck k.length k HSK.out.2 (by have := K60.out; omega) C9.out L9.out (Kd.F_now (Kd.F_step HV.out (fun j hj _ => ((((((HW.out.trans G5.out).trans G6.out).trans G7.out).trans G8.out).trans G9.out).block j hj)))) hck).mono ?_; rintro e w10 ⟨rfl, h1⟩; have G10 := Aside0.mk (h1.mono Z9.out); have D10 := Aside0.mk (D9.out.after h1); have Z10 := Aside0.mk (Nat.le_trans Z9.out h1.size); clear h1)
        | (go_at_call 25; refine (dsafe_at w10 _ g1 (rmV k 131072) (k.length : Int) rfl D10.out).mono ?_; rintro e w8 ⟨rfl, rfl⟩)
        | (go_at_call 20; refine (dkept_at w10 _ g1 (rmV k 131072) 0 rfl D10.out).mono ?_; rintro e w8 ⟨rfl, rfl⟩)
        | (go_at_call 14; refine (wakesD_any w10).mono ?_; rintro e w20 ⟨rfl, h1⟩; have G20 := Aside0.mk h1; clear h1))
      go_ret
      refine ⟨rfl, ?_⟩
      rw [← HBB.out]
      exact ((((((HW.out.trans G5.out).trans G6.out).trans G7.out).trans G8.out).trans G9.out).trans G10.out).trans (G20.out.mono Z10.out)

theorem renews_any (l : List S39) (A : Option Addr) (c : Nat) (k : List S39) (Ak : Option Addr) (ck : Nat) (keep : Int) (hG : OkL Ok39 l) (hc : l.length ≤ c) {w : World} (hC : k39.C w A l.length l) (hGk : OkL Ok39 k) (hck : k.length ≤ ck) (hCk : k39.C w Ak k.length k) (_ : (Lit.int .i64 keep).wf = true) : Calls Try.prog 8 #[.slice A l.length c, .slice Ak k.length ck, .int .i64 keep] w fun e w' => e = .returned (.bool true) ∧ Below w.heap.size w w' := renews_any0 l A c k Ak ck keep hG hc hGk hck w hC hCk
end Go.Proofs.Ytbkfdejcmimhgaa
