/- The walk of DiaryRooms. -/
import Derived.Test.YtbkfdejcmimhgaaProg
import Derived.WalkKit
import Derived.WalkLawsBesides
import Derived.Outline
import Derived.LoopTactic
import Derived.Lib.Hide
import Derived.Deep.QuietTactic
import Derived.BigQuiet
import Derived.Deep.LoopGhost
import Derived.Deep.DeepCutAuto
import Derived.Deep.CutBlock
import Derived.Deep.RegionHeld3
import Derived.Deep.RegionWith
import Derived.Deep.WholeRow
import Derived.Laws.Rows
import Derived.Laws.Tables
import Derived.Laws.ResultCell
import Derived.StillTailTactics
import Derived.Deep.DeepMust
import Derived.IntWalk
import Derived.KernelRfl
import Derived.Test.YtbkfdejcmimhgaaWWords
import Derived.Test.YtbkfdejcmimhgaaWLast
import Derived.Test.YtbkfdejcmimhgaaWMore
import Derived.RegionTactic
import Derived.Test.YtbkfdejcmimhgaaDiP
namespace Go.Proofs.Ytbkfdejcmimhgaa
open Go.RowKit Go.Proofs.YtbkfdejcmimhgaaW.PrintWords Go.Proofs.YtbkfdejcmimhgaaW.PrintMore Go.Proofs.Ytbkfdejcmimhgaa.PDiaryExact
set_option linter.unusedVariables false
set_option linter.unusedSimpArgs false
def rmS (l : List S39) (lim : Int) (i : Nat) : DSt := ⟨lim, l.take i, 0, false, 0, 0, 0, 0⟩
def rmT (l : List S39) (lim : Int) : DSt := ⟨lim, l, l.length, false, 0, 0, 0, 0⟩
theorem take_put (l : List S39) (i : Nat) (x : S39) (h : l[i]? = some x) : l.take i ++ [x] = l.take (i + 1) := by
  rw [List.take_add_one, h]; rfl
theorem rooms_next (l : List S39) (i : Nat) (x : S39) (h : l[i]? = some x) : roomsOf (l.take (i + 1)) = roomsOf (l.take i) + room x := by
  rw [← take_put l i x h, roomsOf_append]
  show _ + (room x + 0) = _
  omega
theorem rooms_split (l : List S39) (i : Nat) : roomsOf l = roomsOf (l.take i) + roomsOf (l.drop i) := by
  rw [← roomsOf_append, List.take_append_drop]
theorem rooms_some (l : List S39) (h : 0 < l.length) : 104 ≤ roomsOf l := by
  cases l with
  | nil => simp at h
  | cons x t =>
    have h1 := room_pos x
    have h2 := roomsOf_nonneg t
    show 104 ≤ room x + roomsOf t
    omega
theorem less_eq (n : Int) : wrap64 ((IntKind.u64.wrap n).tmod 2) = 0 ∨ wrap64 ((IntKind.u64.wrap n).tmod 2) = 1 := by
  have h0 : 0 ≤ IntKind.u64.wrap n := by
    show 0 ≤ n % 2 ^ 64
    omega
  have e : (IntKind.u64.wrap n).tmod 2 = (IntKind.u64.wrap n) % 2 := Int.tmod_eq_emod_of_nonneg h0
  rw [e]
  generalize IntKind.u64.wrap n = y
  unfold wrap64
  omega
theorem put_rm (l : List S39) (lim : Int) (i : Nat) (x : S39) (hx : l[i]? = some x) (h : ¬ lim - roomsOf (l.take i) < room x) : (rmS l lim i).put x = (0, rmS l lim (i + 1)) := by
  have e := put_fits (rmS l lim i) x rfl rfl h
  rw [e]
  show (0, DSt.mk _ (l.take i ++ [x]) _ _ _ _ _ _) = _
  rw [take_put l i x hx]
  rfl
theorem put_rm_full (l : List S39) (lim : Int) (i : Nat) (x : S39) (h : lim - roomsOf (l.take i) < room x) : (rmS l lim i).put x = (8, rmS l lim i) := put_full _ x rfl h
theorem ok_rm (l : List S39) (lim : Int) (i : Nat) (hl : l.length ≤ 60) : (rmS l lim i).Ok := by
  unfold DSt.Ok rmS
  simp only [List.length_take]
  omega
theorem ar_rm (l : List S39) (lim : Int) (i : Nat) : (rmS l lim i).Armed := ⟨Int.le_refl _, by show (0 : Int) ≤ _; omega⟩
theorem renew_rm_full (l : List S39) (lim : Int) (i : Nat) (h : lim < roomsOf l) : (rmS l lim i).renew l = (8, rmS l lim i) := by
  unfold DSt.renew
  rw [if_neg (show ¬ (rmS l lim i).off = true by show ¬ (false = true); decide), if_pos (show (rmS l lim i).limit < roomsOf l from h)]
theorem renew_rm (l : List S39) (lim : Int) (i : Nat) (h : ¬ lim < roomsOf l) : (rmS l lim i).renew l = (0, rmT l lim) := by
  unfold DSt.renew
  rw [if_neg (show ¬ (rmS l lim i).off = true by show ¬ (false = true); decide), if_neg (show ¬ (rmS l lim i).limit < roomsOf l from h)]
  rfl
theorem len_rm (l : List S39) (i : Nat) (hl : l.length ≤ 60) : (l.take i).length < 1000000 := by rw [List.length_take]; omega
theorem room_rec (x : S39) (v4 v5 v10 v14 : Value) (rm : Int) (W : World) (hr : rm = room x) (hK : k39.K W x (recs15 x v4 v5 v10 v14).toList) (hs : Small x) : Calls Try.prog 21 #[.agg (recs15 x v4 v5 v10 v14)] W fun e w' => e = .returned (.int .i64 rm) ∧ Below W.heap.size W w' := droom_at x (recs15 x v4 v5 v10 v14).toList rm W hr hK hs.lite hs.helo
theorem new_rm (B : Nat) (l : List S39) (n : Int) (h1 : 1 ≤ n) (h2 : n ≤ 131072) (w : World) (hB : B ≤ w.heap.size) : Calls Try.prog 11 #[.int .i64 n] w fun e w' => e = .returned (.tuple #[.pointer (some ⟨w.heap.size, 0, none⟩), .int .i64 0]) ∧ Db B w' w.heap.size (rmS l n 0) ∧ Below w.heap.size w w' := new_at B n h1 h2 w hB
set_option maxRecDepth 100000 in
set_option maxHeartbeats 8000000 in
theorem rooms_any0 (l : List S39) (A : Option Addr) (c : Nat) (less : Int) (hG : OkL Ok39 l) (hc : l.length ≤ c) (w : World) (hC : k39.C w A l.length l) : Calls Try.prog 7 #[.slice A l.length c, .int .i64 less] w fun e w' => e = .returned (.bool true) ∧ Below w.heap.size w w' := by
  obtain ⟨b, hb, hs⟩ := h18 l hG.2
  have HB := Aside0.mk hb
  have HCC := Aside0.mk hC
  clear hb hC
  cases b with
  | true =>
    clear hs
    go_enter Try.func7, Try.ntmps7
    go_wp2_with (first | (go_at_call 10; refine (heavy_any true HCC.out hc HB.out).mono ?_; rintro e w3 ⟨rfl, h1⟩; have G3 := Aside0.mk h1; clear h1))
    go_ret
    exact ⟨rfl, G3.out⟩
  | false =>
    have HS := Aside0.mk (hs rfl)
    have h60 : l.length ≤ 60 := HS.out.1
    clear hs
    have HF := Aside0.mk (fine_of_small HS.out.2)
    obtain ⟨B, hB⟩ : ∃ B, B = w.heap.size := ⟨_, rfl⟩
    have HBB := Aside0.mk hB
    clear hB
    have HV := Aside0.mk (show Kd.F k39 w (fun k => k < B) A l.length l by rw [HBB.out]; exact Kd.C_F heap39 HCC.out)
    go_enter Try.func7, Try.ntmps7
    go_wp2_with (first | (go_at_call 10; refine (heavy_any false HCC.out hc HB.out).mono ?_; rintro e w3 ⟨rfl, h1⟩; rw [← HBB.out] at h1; have G3 := Aside0.mk h1; clear h1))
    go_loopg [5, 6] l.length (fun g v5 v6 wr => ∃ (i : Nat), i ≤ l.length ∧ g + i = l.length ∧ v6 = .int .i64 i ∧ v5 = .int .i64 (roomsOf (l.take i)) ∧ Aside0 (Below B w wr))
    case atStart => exact ⟨0, by omega, by omega, rfl, rfl, G3⟩
    case round =>
    obtain ⟨i, hi, hg, rfl, rfl, HW⟩ := hrel
    have HZ := Aside0.mk (show B ≤ wr.heap.size from Nat.le_trans (Nat.le_of_eq HBB.out) HW.out.size)
    by_cases hlt : i < l.length
    · have hlt' : (i : Int) < (l.length : Int) := by omega
      obtain ⟨ad, A4, c4, A5, c5, A10, c10, A14, c14, rfl, q0, q1, q2, q3, q4, q5, q6, q7, q8, q9, q10, q11, q12, q13, q14, l4, g4, l5, g5, l10, g10, l14, g14⟩ := at_T39 (Kd.C_below HCC.out (by rw [← HBB.out]; exact HW.out)) i (by omega) (by omega)
      have ex : rd_T39 l i = l.getD i z39 := rfl
      have hxi : l[i]? = some (rd_T39 l i) := by rw [ex]; simp [List.getD_eq_getElem?_getD, hlt]
      have hxs : Small (rd_T39 l i) := by rw [ex]; exact HS.out.2 _ (by simp [List.getD_eq_getElem?_getD, hlt])
      clear ex
      simp only [Int.toNat_natCast] at q0 q1 q2 q3 q4 q5 q6 q7 q8 q9 q10 q11 q12 q13 q14
      generalize rd_T39 l i = x at *
      have HXI := Aside0.mk hxi
      have HXS := Aside0.mk hxs
      have hKx := k39_mk wr x l4 g4 l5 g5 l10 g10 l14 g14
      have HKX := Aside0.mk hKx
      clear hxs hKx hxi g4 g5 g10 g14 l4 l5 l10 l14
      have hb0 := roomsOf_nonneg (l.take i)
      have hb1 := rooms_le (l.take i) (HF.out.take i)
      have hb2 : ((l.take i).length : Int) ≤ 60 := by rw [List.length_take]; omega
      have hb3 := room_le x HXS.out.lite HXS.out.helo
      have hb4 := room_pos x
      obtain ⟨sm, hsm⟩ : ∃ sm, sm = roomsOf (l.take i) := ⟨_, rfl⟩
      obtain ⟨rm, hrm⟩ : ∃ rm, rm = room x := ⟨_, rfl⟩
      have HNX := Aside0.mk (rooms_next l i x HXI.out)
      rw [← hsm, ← hrm] at HNX
      have HRM := Aside0.mk hrm
      rw [← hsm] at hb0 hb1 ⊢
      rw [← hrm] at hb3 hb4
      have hb5 : sm ≤ 6000000000 := by omega
      clear hb1 hb2 hsm hrm
      go_wp2_with (first | (go_at_call 21; refine (room_rec x (.slice A4 x.f1.f1.length c4) (.slice A5 x.f1.f2.length c5) (.slice A10 x.f3.length c10) (.slice A14 x.f7.length c14) rm wr HRM.out HKX.out HXS.out).mono ?_; rintro e w4 ⟨rfl, h1⟩; have G4 := Aside0.mk (h1.mono HZ.out); clear h1 q0 q1 q2 q3 q4 q5 q6 q7 q8 q9 q10 q11 q12 q13 q14))
      go_roundg (gk - 1)
      case measure => omega
      case rel => exact ⟨i + 1, by omega, by omega, by go_num, by rw [HNX.out], ⟨HW.out.trans G4.out⟩⟩
    have hlt' : ¬ (i : Int) < (l.length : Int) := by omega
    obtain rfl : i = l.length := by omega
    clear hlt
    rw [List.take_length]
    obtain ⟨N, hN⟩ : ∃ N, N = roomsOf l := ⟨_, rfl⟩
    have hN0 : 0 ≤ N := by rw [hN]; exact roomsOf_nonneg l
    have hN1 : N ≤ 6000000000 := by rw [hN]; have := rooms_le l HF.out; omega
    rw [← hN]
    have HN := Aside0.mk hN
    clear hN
    go_upto_region 9 with (fail)
    rcases less_eq less with hle | hle
    all_goals (rw [hle]; clear hle)
    · by_cases hn1 : N < 1
      · go_wp2_with (first | (go_at_call 14; refine (wakesD_any wr).mono ?_; rintro e w20 ⟨rfl, h1⟩; have G20 := Aside0.mk h1; clear h1))
        go_ret
        refine ⟨rfl, ?_⟩
        rw [← HBB.out]
        exact HW.out.trans (G20.out.mono HZ.out)
      by_cases hn2 : 131072 < N
      · go_wp2_with (first | (go_at_call 14; refine (wakesD_any wr).mono ?_; rintro e w20 ⟨rfl, h1⟩; have G20 := Aside0.mk h1; clear h1))
        go_ret
        refine ⟨rfl, ?_⟩
        rw [← HBB.out]
        exact HW.out.trans (G20.out.mono HZ.out)
      have HNB := Aside0.mk hn2
      go_wp2_with (first
        | (go_at_call 11; refine (new_rm B l (N) (by omega) (by omega) wr HZ.out).mono ?_; rintro e w4 ⟨rfl, h1, h2⟩; obtain ⟨g1, hg1⟩ : ∃ g1, g1 = wr.heap.size := ⟨_, rfl⟩; rw [← hg1] at h1 h2 ⊢; have D4 := Aside0.mk h1; have G4 := Aside0.mk (h2.mono (by rw [hg1]; exact HZ.out)); clear h1 h2 hg1))
      have HW4 := Aside0.mk (HW.out.trans G4.out)
      clear hlt' HZ HW G4
      go_loopg [9, 10] l.length (fun g v9 v10 wr => ∃ (i : Nat), i ≤ l.length ∧ g + i = l.length ∧ v10 = .int .i64 i ∧ v9 = .int .i64 0 ∧ Aside0 (Db B wr g1 (rmS l N i)) ∧ Aside0 (Below B w wr))
      case atStart => exact ⟨0, by omega, by omega, rfl, rfl, D4, HW4⟩
      case round =>
      obtain ⟨i, hi, hg, rfl, rfl, HD, HW⟩ := hrel
      have HZ := Aside0.mk (show B ≤ wr.heap.size from Nat.le_trans (Nat.le_of_eq HBB.out) HW.out.size)
      have HOKS := Aside0.mk (ok_rm l (N) i h60)
      have HLN := Aside0.mk (show (rmS l (N) i).recs.length < 1000000 from len_rm l i h60)
      have HFS := Aside0.mk (show Fine (rmS l (N) i).recs from HF.out.take i)
      have HAR := Aside0.mk (ar_rm l (N) i)
      have HL0 := Aside0.mk (show 0 ≤ (rmS l (N) i).limit by show 0 ≤ N; omega)
      have HL1 := Aside0.mk (show (rmS l (N) i).limit ≤ 1000000 by show N ≤ 1000000; omega)
      by_cases hlt : i < l.length
      · have hlt' : (i : Int) < (l.length : Int) := by omega
        obtain ⟨ad, A4, c4, A5, c5, A10, c10, A14, c14, rfl, q0, q1, q2, q3, q4, q5, q6, q7, q8, q9, q10, q11, q12, q13, q14, l4, g4, l5, g5, l10, g10, l14, g14⟩ := at_T39 (Kd.C_below HCC.out (by rw [← HBB.out]; exact HW.out)) i (by omega) (by omega)
        have ex : rd_T39 l i = l.getD i z39 := rfl
        have hxi : l[i]? = some (rd_T39 l i) := by rw [ex]; simp [List.getD_eq_getElem?_getD, hlt]
        have hxs : Small (rd_T39 l i) := by rw [ex]; exact HS.out.2 _ (by simp [List.getD_eq_getElem?_getD, hlt])
        clear ex
        simp only [Int.toNat_natCast] at q0 q1 q2 q3 q4 q5 q6 q7 q8 q9 q10 q11 q12 q13 q14
        generalize rd_T39 l i = x at *
        have HXI := Aside0.mk hxi
        have HXS := Aside0.mk hxs
        have hKx := k39_mk wr x l4 g4 l5 g5 l10 g10 l14 g14
        have HKX := Aside0.mk hKx
        clear hxs hKx hxi g4 g5 g10 g14 l4 l5 l10 l14
        have hsp := rooms_split l (i + 1)
        rw [rooms_next l i x HXI.out, ← HN.out] at hsp
        have hdr := roomsOf_nonneg (l.drop (i + 1))
        have H0 := Aside0.mk (put_rm l N i x HXI.out (by omega))
        clear hsp hdr
        go_wp2_with (first
          | (go_at_call 13; with_reducible refine Calls.mono (put_at B wr g1 (rmS l N i) (rmS l N (i + 1)) x (recs15 x (.slice A4 x.f1.f1.length c4) (.slice A5 x.f1.f2.length c5) (.slice A10 x.f3.length c10) (.slice A14 x.f7.length c14)) 0 H0.out HD.out HZ.out HKX.out HXS.out.lite HXS.out.helo HOKS.out HLN.out HFS.out HAR.out HL0.out HL1.out) ?_; rintro e w5 ⟨rfl, h1, h2⟩; have D5 := Aside0.mk h1; have G5 := Aside0.mk h2; have Z5 := Aside0.mk (Nat.le_trans HZ.out h2.size); clear h1 h2 q0 q1 q2 q3 q4 q5 q6 q7 q8 q9 q10 q11 q12 q13 q14))
        go_roundg (gk - 1)
        case measure => omega
        case rel => exact ⟨i + 1, by omega, by omega, by go_num, rfl, D5, ⟨HW.out.trans G5.out⟩⟩
      · have hlt' : ¬ (i : Int) < (l.length : Int) := by omega
        obtain rfl : i = l.length := by omega
        clear hlt
        have HUS := Aside0.mk (show N = roomsOf (rmS l N l.length).recs by show N = roomsOf (l.take l.length); rw [List.take_length]; exact HN.out)
        have HP8 := Aside0.mk (put_rm_full l N l.length z39 (by rw [List.take_length, ← HN.out, room0_eq]; omega))
        have HRN := Aside0.mk (renew_rm l N l.length (by rw [← HN.out]; omega))
        go_wp2_with (first
          | (go_at_call 28; refine (dused_at wr _ g1 _ N HUS.out HD.out HFS.out (by have := HLN.out; omega)).mono ?_; rintro e w5 ⟨rfl, h1⟩; have D5 := Aside0.mk (HD.out.after h1); have G5 := Aside0.mk (h1.mono HZ.out); have Z5 := Aside0.mk (Nat.le_trans HZ.out h1.size); clear h1)
          | (go_at_call 13; with_reducible refine Calls.mono (put_at B w5 g1 (rmS l N l.length) (rmS l N l.length) z39 (zcs 0) 8 HP8.out D5.out Z5.out (z_K _) z_lite z_helo HOKS.out HLN.out HFS.out HAR.out HL0.out HL1.out) ?_; rintro e w6 ⟨rfl, h1, h2⟩; have D6 := Aside0.mk h1; have G6 := Aside0.mk h2; have Z6 := Aside0.mk (Nat.le_trans Z5.out h2.size); clear h1 h2)
          | (go_at_call 26; with_reducible refine Calls.mono (renew_at B w6 g1 _ _ l A c 0 HRN.out D6.out Z6.out (Kd.F_step HV.out (fun k hk _ => ((HW.out.trans G5.out).trans G6.out).block k hk)) hc HF.out (by omega) HOKS.out HAR.out) ?_; rintro e w7 ⟨rfl, h1, h2⟩; have D7 := Aside0.mk h1; have G7 := Aside0.mk h2; have Z7 := Aside0.mk (Nat.le_trans Z6.out h2.size); clear h1 h2)
          | (go_at_call 25; refine (dsafe_at w7 _ g1 (rmT l N) (l.length : Int) rfl D7.out).mono ?_; rintro e w8 ⟨rfl, rfl⟩)
          | (go_at_call 14; refine (wakesD_any w7).mono ?_; rintro e w20 ⟨rfl, h1⟩; have G20 := Aside0.mk h1; clear h1))
        go_ret
        refine ⟨rfl, ?_⟩
        rw [← HBB.out]
        exact ((((HW.out.trans G5.out).trans G6.out).trans G7.out)).trans (G20.out.mono Z7.out)
    · by_cases hn1 : N - 1 < 1
      · go_wp2_with (first | (go_at_call 14; refine (wakesD_any wr).mono ?_; rintro e w20 ⟨rfl, h1⟩; have G20 := Aside0.mk h1; clear h1))
        go_ret
        refine ⟨rfl, ?_⟩
        rw [← HBB.out]
        exact HW.out.trans (G20.out.mono HZ.out)
      by_cases hn2 : 131072 < N
      · go_wp2_with (first | (go_at_call 14; refine (wakesD_any wr).mono ?_; rintro e w20 ⟨rfl, h1⟩; have G20 := Aside0.mk h1; clear h1))
        go_ret
        refine ⟨rfl, ?_⟩
        rw [← HBB.out]
        exact HW.out.trans (G20.out.mono HZ.out)
      have hlp : 0 < l.length := by
        apply Nat.pos_of_ne_zero
        intro h
        have e : l = [] := List.length_eq_zero_iff.1 h
        have := HN.out
        rw [e] at this
        have e2 : N = 0 := this
        omega
      have HNB := Aside0.mk hn2
      go_wp2_with (first
        | (go_at_call 11; refine (new_rm B l (N - 1) (by omega) (by omega) wr HZ.out).mono ?_; rintro e w4 ⟨rfl, h1, h2⟩; obtain ⟨g1, hg1⟩ : ∃ g1, g1 = wr.heap.size := ⟨_, rfl⟩; rw [← hg1] at h1 h2 ⊢; have D4 := Aside0.mk h1; have G4 := Aside0.mk (h2.mono (by rw [hg1]; exact HZ.out)); clear h1 h2 hg1))
      have HW4 := Aside0.mk (HW.out.trans G4.out)
      clear hlt' HZ HW G4
      go_loopg [9, 10] l.length (fun g v9 v10 wr => ∃ (i : Nat), i ≤ l.length ∧ g + i = l.length ∧ v10 = .int .i64 i ∧ ((v9 = .int .i64 0 ∧ i < l.length ∧ Aside0 (Db B wr g1 (rmS l (N - 1) i))) ∨ (v9 = .int .i64 8 ∧ i = l.length ∧ Aside0 (Db B wr g1 (rmS l (N - 1) (l.length - 1))))) ∧ Aside0 (Below B w wr))
      case atStart => exact ⟨0, by omega, by omega, rfl, .inl ⟨rfl, hlp, D4⟩, HW4⟩
      case round =>
      obtain ⟨i, hi, hg, rfl, ⟨rfl, hlt, HD⟩ | ⟨rfl, rfl, HD⟩, HW⟩ := hrel
      · have HZ := Aside0.mk (show B ≤ wr.heap.size from Nat.le_trans (Nat.le_of_eq HBB.out) HW.out.size)
        have HOKS := Aside0.mk (ok_rm l (N - 1) i h60)
        have HLN := Aside0.mk (show (rmS l (N - 1) i).recs.length < 1000000 from len_rm l i h60)
        have HFS := Aside0.mk (show Fine (rmS l (N - 1) i).recs from HF.out.take i)
        have HAR := Aside0.mk (ar_rm l (N - 1) i)
        have HL0 := Aside0.mk (show 0 ≤ (rmS l (N - 1) i).limit by show 0 ≤ N - 1; omega)
        have HL1 := Aside0.mk (show (rmS l (N - 1) i).limit ≤ 1000000 by show N - 1 ≤ 1000000; omega)
        have hlt' : (i : Int) < (l.length : Int) := by omega
        obtain ⟨ad, A4, c4, A5, c5, A10, c10, A14, c14, rfl, q0, q1, q2, q3, q4, q5, q6, q7, q8, q9, q10, q11, q12, q13, q14, l4, g4, l5, g5, l10, g10, l14, g14⟩ := at_T39 (Kd.C_below HCC.out (by rw [← HBB.out]; exact HW.out)) i (by omega) (by omega)
        have ex : rd_T39 l i = l.getD i z39 := rfl
        have hxi : l[i]? = some (rd_T39 l i) := by rw [ex]; simp [List.getD_eq_getElem?_getD, hlt]
        have hxs : Small (rd_T39 l i) := by rw [ex]; exact HS.out.2 _ (by simp [List.getD_eq_getElem?_getD, hlt])
        clear ex
        simp only [Int.toNat_natCast] at q0 q1 q2 q3 q4 q5 q6 q7 q8 q9 q10 q11 q12 q13 q14
        generalize rd_T39 l i = x at *
        have HXI := Aside0.mk hxi
        have HXS := Aside0.mk hxs
        have hKx := k39_mk wr x l4 g4 l5 g5 l10 g10 l14 g14
        have HKX := Aside0.mk hKx
        clear hxs hKx hxi g4 g5 g10 g14 l4 l5 l10 l14
        have hsp := rooms_split l (i + 1)
        rw [rooms_next l i x HXI.out, ← HN.out] at hsp
        by_cases hnx : i + 1 < l.length
        · have hdr := rooms_some (l.drop (i + 1)) (by rw [List.length_drop]; omega)
          have H0 := Aside0.mk (put_rm l (N - 1) i x HXI.out (by omega))
          clear hsp hdr
          go_wp2_with (first
            | (go_at_call 13; with_reducible refine Calls.mono (put_at B wr g1 (rmS l (N - 1) i) (rmS l (N - 1) (i + 1)) x (recs15 x (.slice A4 x.f1.f1.length c4) (.slice A5 x.f1.f2.length c5) (.slice A10 x.f3.length c10) (.slice A14 x.f7.length c14)) 0 H0.out HD.out HZ.out HKX.out HXS.out.lite HXS.out.helo HOKS.out HLN.out HFS.out HAR.out HL0.out HL1.out) ?_; rintro e w5 ⟨rfl, h1, h2⟩; have D5 := Aside0.mk h1; have G5 := Aside0.mk h2; have Z5 := Aside0.mk (Nat.le_trans HZ.out h2.size); clear h1 h2 q0 q1 q2 q3 q4 q5 q6 q7 q8 q9 q10 q11 q12 q13 q14))
          go_roundg (gk - 1)
          case measure => omega
          case rel => exact ⟨i + 1, by omega, by omega, by go_num, .inl ⟨rfl, hnx, D5⟩, ⟨HW.out.trans G5.out⟩⟩
        · have hdr : l.drop (i + 1) = [] := List.drop_eq_nil_of_le (by omega)
          rw [hdr] at hsp
          have hsp2 : N = roomsOf (l.take i) + room x + 0 := hsp
          have H8 := Aside0.mk (put_rm_full l (N - 1) i x (by omega))
          have hi1 : i = l.length - 1 := by omega
          have HI1 := Aside0.mk hi1
          clear hsp hdr hsp2 hi1
          go_wp2_with (first
            | (go_at_call 13; with_reducible refine Calls.mono (put_at B wr g1 (rmS l (N - 1) i) (rmS l (N - 1) i) x (recs15 x (.slice A4 x.f1.f1.length c4) (.slice A5 x.f1.f2.length c5) (.slice A10 x.f3.length c10) (.slice A14 x.f7.length c14)) 8 H8.out HD.out HZ.out HKX.out HXS.out.lite HXS.out.helo HOKS.out HLN.out HFS.out HAR.out HL0.out HL1.out) ?_; rintro e w5 ⟨rfl, h1, h2⟩; have D5 := Aside0.mk h1; have G5 := Aside0.mk h2; have Z5 := Aside0.mk (Nat.le_trans HZ.out h2.size); clear h1 h2 q0 q1 q2 q3 q4 q5 q6 q7 q8 q9 q10 q11 q12 q13 q14))
          go_roundg (gk - 1)
          case measure => omega
          case rel => exact ⟨i + 1, by omega, by omega, by go_num, .inr ⟨rfl, by omega, by rw [← HI1.out]; exact D5⟩, ⟨HW.out.trans G5.out⟩⟩
      · have HZ := Aside0.mk (show B ≤ wr.heap.size from Nat.le_trans (Nat.le_of_eq HBB.out) HW.out.size)
        obtain ⟨i, hi1⟩ : ∃ i, i = l.length - 1 := ⟨_, rfl⟩
        rw [← hi1] at HD
        have HOKS := Aside0.mk (ok_rm l (N - 1) i h60)
        have HLN := Aside0.mk (show (rmS l (N - 1) i).recs.length < 1000000 from len_rm l i h60)
        have HFS := Aside0.mk (show Fine (rmS l (N - 1) i).recs from HF.out.take i)
        have HAR := Aside0.mk (ar_rm l (N - 1) i)
        have HL0 := Aside0.mk (show 0 ≤ (rmS l (N - 1) i).limit by show 0 ≤ N - 1; omega)
        have HL1 := Aside0.mk (show (rmS l (N - 1) i).limit ≤ 1000000 by show N - 1 ≤ 1000000; omega)
        have hlt' : ¬ (l.length : Int) < (l.length : Int) := by omega
        have HLE := Aside0.mk (show ((rmS l (N - 1) i).recs.length : Int) = (l.length : Int) - 1 by show ((l.take i).length : Int) = _; rw [List.length_take]; omega)
        have HRN := Aside0.mk (renew_rm_full l (N - 1) i (by rw [← HN.out]; omega))
        clear hi1
        go_wp2_with (first
          | (go_at_call 23; refine (dlen_at wr _ g1 _ _ HLE.out HD.out).mono ?_; rintro e w8 ⟨rfl, rfl⟩)
          | (go_at_call 26; with_reducible refine Calls.mono (renew_at B wr g1 _ _ l A c 8 HRN.out HD.out HZ.out (Kd.F_step HV.out (fun k hk _ => (HW.out).block k hk)) hc HF.out (by omega) HOKS.out HAR.out) ?_; rintro e w7 ⟨rfl, h1, h2⟩; have D7 := Aside0.mk h1; have G7 := Aside0.mk h2; have Z7 := Aside0.mk (Nat.le_trans HZ.out h2.size); clear h1 h2)
          | (go_at_call 14; refine (wakesD_any w7).mono ?_; rintro e w20 ⟨rfl, h1⟩; have G20 := Aside0.mk h1; clear h1))
        go_ret
        refine ⟨rfl, ?_⟩
        rw [← HBB.out]
        exact (HW.out.trans G7.out).trans (G20.out.mono Z7.out)
theorem dyrooms_any (l : List S39) (A : Option Addr) (c : Nat) (less : Int) (hG : OkL Ok39 l) (hc : l.length ≤ c) {w : World} (hC : k39.C w A l.length l) (_ : (Lit.int .i64 less).wf = true) : Calls Try.prog 7 #[.slice A l.length c, .int .i64 less] w fun e w' => e = .returned (.bool true) ∧ Below w.heap.size w w' := rooms_any0 l A c less hG hc w hC
end Go.Proofs.Ytbkfdejcmimhgaa
