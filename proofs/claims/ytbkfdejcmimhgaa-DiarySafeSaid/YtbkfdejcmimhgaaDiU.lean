/- The walk of DiarySafe. -/
import Derived.Test.YtbkfdejcmimhgaaProg
import Derived.WalkKit
import Derived.WalkLawsBesides
import Derived.Outline
import Derived.LoopTactic
import Derived.Lib.Hide
import Derived.Deep.QuietTactic
import Derived.BigQuiet
import Derived.Deep.LoopGhost
import Derived.Deep.DeepCutAuto
import Derived.Deep.CutBlock
import Derived.Deep.RegionHeld3
import Derived.Deep.RegionWith
import Derived.Deep.WholeRow
import Derived.Laws.Rows
import Derived.Laws.Tables
import Derived.Laws.ResultCell
import Derived.StillTailTactics
import Derived.Deep.DeepMust
import Derived.IntWalk
import Derived.KernelRfl
import Derived.Test.YtbkfdejcmimhgaaWWords
import Derived.Test.YtbkfdejcmimhgaaWLast
import Derived.Test.YtbkfdejcmimhgaaWMore
import Derived.RegionTactic
import Derived.Test.YtbkfdejcmimhgaaDiV
namespace Go.Proofs.Ytbkfdejcmimhgaa
open Go.RowKit Go.Proofs.YtbkfdejcmimhgaaW.PrintWords Go.Proofs.YtbkfdejcmimhgaaW.PrintMore Go.Proofs.Ytbkfdejcmimhgaa.PDiaryExact
set_option linter.unusedVariables false
set_option linter.unusedSimpArgs false
attribute [local go_sem] max2_int min2_int max_two min_two
def sfS (l more : List S39) (i : Nat) : DSt := ⟨131072, l ++ more.take i, l.length, false, 0, 0, 0, 0⟩
def sfU (l more : List S39) (kk : Nat) : DSt := ⟨131072, l ++ more.take kk, (l.length : Int) + kk, true, 1, 0, 0, kk⟩
theorem sync_sf (l more : List S39) : (rmS l 131072 l.length).sync = (0, sfS l more 0) := by
  unfold DSt.sync
  rw [if_neg (show ¬ (rmS l 131072 l.length).off = true by show ¬ (false = true); decide), if_neg (show ¬ (rmS l 131072 l.length).hit = true by show ¬ (false = true); decide)]
  show (0, DSt.mk 131072 (l.take l.length) ((l.take l.length).length : Int) false 0 0 0 0) = (0, DSt.mk 131072 (l ++ []) (l.length : Int) false 0 0 0 0)
  rw [List.take_length, List.append_nil]
theorem put_sf (l more : List S39) (i : Nat) (x : S39) (hx : more[i]? = some x) (h : ¬ 131072 - roomsOf (l ++ more.take i) < room x) : (sfS l more i).put x = (0, sfS l more (i + 1)) := by
  have e := put_fits (sfS l more i) x rfl rfl h
  rw [e]
  show (0, DSt.mk _ ((l ++ more.take i) ++ [x]) _ _ _ _ _ _) = _
  rw [List.append_assoc, take_put more i x hx]
  rfl
theorem put_sf_full (l more : List S39) (i : Nat) (x : S39) (h : 131072 - roomsOf (l ++ more.take i) < room x) : (sfS l more i).put x = (8, sfS l more i) := put_full _ x rfl h
theorem crash_sf (l more : List S39) (keep : Int) (kk : Nat) (hk : (kk : Int) = min (max keep 0) (more.length : Int)) : (sfS l more more.length).crash keep = sfU l more kk := by
  have hr : (sfS l more more.length).recs.length = l.length + more.length := by
    show (l ++ more.take more.length).length = _
    rw [List.take_length, List.length_append]
  have h3 : (sfS l more more.length).stay keep = kk := by
    unfold DSt.stay
    rw [hr]
    show min (max keep 0) (((l.length + more.length : Nat) : Int) - (l.length : Int)) = kk
    omega
  unfold DSt.crash
  rw [if_neg (show ¬ (sfS l more more.length).off = true by show ¬ (false = true); decide), h3]
  show DSt.mk 131072 ((l ++ more.take more.length).take ((l.length : Int) + kk).toNat) ((l.length : Int) + kk) true (0 + 1) 0 0 (0 + kk) = _
  have e : ((l.length : Int) + kk).toNat = l.length + kk := by omega
  rw [e, List.take_length, List.take_append, List.take_of_length_le (by omega), show l.length + kk - l.length = kk by omega, Int.zero_add (kk : Int)]
  rfl
theorem ok_sf (l more : List S39) (i : Nat) (hl : l.length ≤ 60) (hm : more.length ≤ 60) : (sfS l more i).Ok := by
  unfold DSt.Ok sfS
  simp only [List.length_append, List.length_take]
  omega
theorem ok_sfU (l more : List S39) (kk : Nat) (hl : l.length ≤ 60) (hm : more.length ≤ 60) (hk : kk ≤ more.length) : (sfU l more kk).Ok := by
  unfold DSt.Ok sfU
  simp only [List.length_append, List.length_take]
  omega
theorem ar_sf (l more : List S39) (i : Nat) : (sfS l more i).Armed := ⟨Int.le_refl _, by show (0 : Int) ≤ _; omega⟩
theorem ar_sfU (l more : List S39) (i : Nat) : (sfU l more i).Armed := ⟨Int.le_refl _, by show (0 : Int) ≤ _; omega⟩
theorem len_sf (l more : List S39) (i : Nat) (hl : l.length ≤ 60) (hm : more.length ≤ 60) : (l ++ more.take i).length < 1000000 := by rw [List.length_append, List.length_take]; omega
theorem off_put (s : DSt) (x : S39) (h : s.off = true) : s.put x = (7, s) := by unfold DSt.put; rw [if_pos h]
theorem off_sync (s : DSt) (h : s.off = true) : s.sync = (7, s) := by unfold DSt.sync; rw [if_pos h]
theorem off_renew (s : DSt) (x : List S39) (h : s.off = true) : s.renew x = (7, s) := by unfold DSt.renew; rw [if_pos h]
theorem startS_at (B : Nat) (W : World) (g : Nat) (l more : List S39) (kk : Nat) (h : Db B W g (sfU l more kk)) (hB : B ≤ W.heap.size) : Calls Try.prog 16 #[.pointer (some ⟨g, 0, none⟩)] W fun e w' => (∃ v, e = .returned v) ∧ Db B w' g (sfV l more kk) ∧ Below B W w' := start_at B W g (sfU l more kk) h hB
theorem readS_at (B : Nat) (W : World) (g : Nat) (l more : List S39) (kk : Nat) (h : Db B W g (sfV l more kk)) (hF : Fine (l ++ more.take kk)) (hl : (l ++ more.take kk).length < 1000000) (hk : kk ≤ more.length) : Calls Try.prog 17 #[.pointer (some ⟨g, 0, none⟩)] W fun e w' => ∃ A c, e = .returned (.tuple #[.slice A (l.length + kk) c, .int .i64 0]) ∧ k39.C w' A (l.length + kk) (l ++ more.take kk) ∧ l.length + kk ≤ c ∧ Below W.heap.size W w' := by
  refine (dread_yes W _ g (sfV l more kk) h rfl hF (Nat.le_of_lt hl)).mono ?_
  rintro e w ⟨v, rfl, h1, h2⟩
  obtain ⟨A, c, rfl⟩ := Kd.N_slice h1
  have hr := Kd.N_reads' h1
  have e3 : (sfV l more kk).recs = l ++ more.take kk := rfl
  have e4 : (l ++ more.take kk).length = l.length + kk := by rw [List.length_append, List.length_take]; omega
  rw [e3] at hr ⊢
  rw [e4] at hr ⊢
  exact ⟨A, c, rfl, hr.2.2, hr.2.1, h2⟩
theorem rnil_at (B : Nat) (W : World) (g : Nat) (s : DSt) (h : Db B W g s) (hB : B ≤ W.heap.size) (ho : s.off = true) (hok : s.Ok) (ha : s.Armed) : Calls Try.prog 26 #[.pointer (some ⟨g, 0, none⟩), .slice none 0 0] W fun e w' => e = .returned (.int .i64 7) ∧ Db B w' g s ∧ Below B W w' := renew_at B W g s s [] none 0 7 (off_renew s [] ho) h hB (Kd.F_nil k39 W _) (Nat.le_refl 0) (fun x hx => by cases hx) (Nat.zero_le _) hok ha
set_option maxRecDepth 100000 in
set_option maxHeartbeats 8000000 in
theorem safe_any0 (l : List S39) (A : Option Addr) (c : Nat) (more : List S39) (Am : Option Addr) (cm : Nat) (keep : Int) (hG : OkL Ok39 l) (hc : l.length ≤ c) (hGm : OkL Ok39 more) (hcm : more.length ≤ cm) (w : World) (hC : k39.C w A l.length l) (hCm : k39.C w Am more.length more) : Calls Try.prog 6 #[.slice A l.length c, .slice Am more.length cm, .int .i64 keep] w fun e w' => e = .returned (.bool true) ∧ Below w.heap.size w w' := by
  obtain ⟨b, hb, hs⟩ := h18 l hG.2
  obtain ⟨bk, hbk, hsk⟩ := h18 more hGm.2
  have HB := Aside0.mk hb
  have HBM := Aside0.mk hbk
  have HCC := Aside0.mk hC
  have HCM := Aside0.mk hCm
  clear hb hbk hC hCm
  obtain ⟨B, hB⟩ : ∃ B, B = w.heap.size := ⟨_, rfl⟩
  have HBB := Aside0.mk hB
  clear hB
  cases b with
  | true =>
    clear hs hsk
    go_enter Try.func6, Try.ntmps6
    go_wp2_with (first
      | (go_at_call 10; with_reducible refine Calls.mono (heavy_any true HCC.out hc HB.out) ?_; rintro e w2 ⟨rfl, h1⟩; rw [← HBB.out] at h1; have G2 := Aside0.mk h1; have HCM2 := Aside0.mk (Kd.C_below HCM.out (by rw [← HBB.out]; exact h1)); have Z2 := Aside0.mk (show B ≤ w2.heap.size from Nat.le_trans (Nat.le_of_eq HBB.out) h1.size); clear h1))
    go_ret
    refine ⟨rfl, ?_⟩
    rw [← HBB.out]
    exact G2.out
  | false =>
  cases bk with
  | true =>
    clear hs hsk
    go_enter Try.func6, Try.ntmps6
    go_wp2_with (first
      | (go_at_call 10; with_reducible refine Calls.mono (heavy_any false HCC.out hc HB.out) ?_; rintro e w2 ⟨rfl, h1⟩; rw [← HBB.out] at h1; have G2 := Aside0.mk h1; have HCM2 := Aside0.mk (Kd.C_below HCM.out (by rw [← HBB.out]; exact h1)); have Z2 := Aside0.mk (show B ≤ w2.heap.size from Nat.le_trans (Nat.le_of_eq HBB.out) h1.size); clear h1)
      | (go_at_call 10; with_reducible refine Calls.mono (heavy_any true HCM2.out hcm HBM.out) ?_; rintro e w3 ⟨rfl, h1⟩; have G3 := Aside0.mk (G2.out.trans (h1.mono Z2.out)); have Z3 := Aside0.mk (Nat.le_trans Z2.out h1.size); clear h1))
    go_ret
    refine ⟨rfl, ?_⟩
    rw [← HBB.out]
    exact G3.out
  | false =>
    have HS := Aside0.mk (hs rfl)
    have h60 : l.length ≤ 60 := HS.out.1
    have HSM := Aside0.mk (hsk rfl)
    have m60 : more.length ≤ 60 := HSM.out.1
    clear hs hsk
    have HF := Aside0.mk (fine_of_small HS.out.2)
    have HFM := Aside0.mk (fine_of_small HSM.out.2)
    have HV := Aside0.mk (show Kd.F k39 w (fun j => j < B) A l.length l by rw [HBB.out]; exact Kd.C_F heap39 HCC.out)
    have HVM := Aside0.mk (show Kd.F k39 w (fun j => j < B) Am more.length more by rw [HBB.out]; exact Kd.C_F heap39 HCM.out)
    obtain ⟨kk, hkk⟩ : ∃ kk : Nat, (kk : Int) = min (max keep 0) (more.length : Int) := ⟨(min (max keep 0) (more.length : Int)).toNat, by omega⟩
    have hkl : kk ≤ more.length := by omega
    have HKK := Aside0.mk hkk
    clear hkk
    go_enter Try.func6, Try.ntmps6
    go_wp2_with (first
      | (go_at_call 10; with_reducible refine Calls.mono (heavy_any false HCC.out hc HB.out) ?_; rintro e w2 ⟨rfl, h1⟩; rw [← HBB.out] at h1; have G2 := Aside0.mk h1; have HCM2 := Aside0.mk (Kd.C_below HCM.out (by rw [← HBB.out]; exact h1)); have Z2 := Aside0.mk (show B ≤ w2.heap.size from Nat.le_trans (Nat.le_of_eq HBB.out) h1.size); clear h1)
      | (go_at_call 10; with_reducible refine Calls.mono (heavy_any false HCM2.out hcm HBM.out) ?_; rintro e w3 ⟨rfl, h1⟩; have G3 := Aside0.mk (G2.out.trans (h1.mono Z2.out)); have Z3 := Aside0.mk (Nat.le_trans Z2.out h1.size); clear h1)
      | (go_at_call 11; refine (new_rm B l 131072 (by decide) (by decide) w3 Z3.out).mono ?_; rintro e w4 ⟨rfl, h1, h2⟩; obtain ⟨g1, hg1⟩ : ∃ g1, g1 = w3.heap.size := ⟨_, rfl⟩; rw [← hg1] at h1 h2 ⊢; have D4 := Aside0.mk h1; have HW4 := Aside0.mk (G3.out.trans (h2.mono (by rw [hg1]; exact Z3.out))); clear h1 h2 hg1))
    go_loopg [9, 10] l.length (fun g v9 v10 wr => ∃ (i : Nat), i ≤ l.length ∧ g + i = l.length ∧ v9 = .int .i64 i ∧ Aside0 (Db B wr g1 (rmS l 131072 i)) ∧ Aside0 (Below B w wr))
    case atStart => exact ⟨0, by omega, by omega, rfl, D4, HW4⟩
    case round =>
    obtain ⟨i, hi, hg, rfl, HD, HW⟩ := hrel
    have HZ := Aside0.mk (show B ≤ wr.heap.size from Nat.le_trans (Nat.le_of_eq HBB.out) HW.out.size)
    have HOKS := Aside0.mk (ok_rm l (131072) i h60)
    have HLN := Aside0.mk (show (rmS l (131072) i).recs.length < 1000000 from len_rm l i h60)
    have HFS := Aside0.mk (show Fine (rmS l (131072) i).recs from HF.out.take i)
    have HAR := Aside0.mk (ar_rm l (131072) i)
    have HL0 := Aside0.mk (show 0 ≤ (rmS l (131072) i).limit by show 0 ≤ 131072; omega)
    have HL1 := Aside0.mk (show (rmS l (131072) i).limit ≤ 1000000 by show 131072 ≤ 1000000; omega)
    by_cases hlt : i < l.length
    · have hlt' : (i : Int) < (l.length : Int) := by omega
      obtain ⟨ad, A4, c4, A5, c5, A10, c10, A14, c14, rfl, q0, q1, q2, q3, q4, q5, q6, q7, q8, q9, q10, q11, q12, q13, q14, l4, g4, l5, g5, l10, g10, l14, g14⟩ := at_T39 (Kd.C_below HCC.out (by rw [← HBB.out]; exact HW.out)) i (by omega) (by omega)
      have ex : rd_T39 l i = l.getD i z39 := rfl
      have hxi : l[i]? = some (rd_T39 l i) := by rw [ex]; simp [List.getD_eq_getElem?_getD, hlt]
      have hxs : Small (rd_T39 l i) := by rw [ex]; exact HS.out.2 _ (by simp [List.getD_eq_getElem?_getD, hlt])
      clear ex
      simp only [Int.toNat_natCast] at q0 q1 q2 q3 q4 q5 q6 q7 q8 q9 q10 q11 q12 q13 q14
      generalize rd_T39 l i = x at *
      have HXI := Aside0.mk hxi
      have HXS := Aside0.mk hxs
      have hKx := k39_mk wr x l4 g4 l5 g5 l10 g10 l14 g14
      have HKX := Aside0.mk hKx
      clear hxs hKx hxi g4 g5 g10 g14 l4 l5 l10 l14
      by_cases hful : 131072 - roomsOf (l.take i) < room x
      · have H8 := Aside0.mk (put_rm_full l 131072 i x hful)
        clear hful
        go_wp2_with (first
          | (go_at_call 13; with_reducible refine Calls.mono (put_at B wr g1 (rmS l 131072 i) (rmS l 131072 i) x (recs15 x (.slice A4 x.f1.f1.length c4) (.slice A5 x.f1.f2.length c5) (.slice A10 x.f3.length c10) (.slice A14 x.f7.length c14)) 8 H8.out HD.out HZ.out HKX.out HXS.out.lite HXS.out.helo HOKS.out HLN.out HFS.out HAR.out HL0.out HL1.out) ?_; rintro e w5 ⟨rfl, h1, h2⟩; have D5 := Aside0.mk h1; have G5 := Aside0.mk h2; have Z5 := Aside0.mk (Nat.le_trans HZ.out h2.size); clear h1 h2 q0 q1 q2 q3 q4 q5 q6 q7 q8 q9 q10 q11 q12 q13 q14)
          | (go_at_call 14; refine (wakesD_any w5).mono ?_; rintro e w20 ⟨rfl, h1⟩; have G20 := Aside0.mk h1; clear h1))
        go_ret
        refine ⟨rfl, ?_⟩
        rw [← HBB.out]
        exact (HW.out.trans G5.out).trans (G20.out.mono Z5.out)
      · have H0 := Aside0.mk (put_rm l 131072 i x HXI.out hful)
        clear hful
        go_wp2_with (first
          | (go_at_call 13; with_reducible refine Calls.mono (put_at B wr g1 (rmS l 131072 i) (rmS l 131072 (i + 1)) x (recs15 x (.slice A4 x.f1.f1.length c4) (.slice A5 x.f1.f2.length c5) (.slice A10 x.f3.length c10) (.slice A14 x.f7.length c14)) 0 H0.out HD.out HZ.out HKX.out HXS.out.lite HXS.out.helo HOKS.out HLN.out HFS.out HAR.out HL0.out HL1.out) ?_; rintro e w5 ⟨rfl, h1, h2⟩; have D5 := Aside0.mk h1; have G5 := Aside0.mk h2; have Z5 := Aside0.mk (Nat.le_trans HZ.out h2.size); clear h1 h2 q0 q1 q2 q3 q4 q5 q6 q7 q8 q9 q10 q11 q12 q13 q14))
        go_roundg (gk - 1)
        case measure => omega
        case rel => exact ⟨i + 1, by omega, by omega, by go_num, D5, ⟨HW.out.trans G5.out⟩⟩
    have hlt' : ¬ (i : Int) < (l.length : Int) := by omega
    obtain rfl : i = l.length := by omega
    clear hlt
    have HSY := Aside0.mk (sync_sf l more)
    go_wp2_with (first
      | (go_at_call 15; refine Calls.mono (sync_at B wr g1 _ (sfS l more 0) 0 HSY.out HD.out HZ.out HOKS.out HAR.out) ?_; rintro e w5 ⟨rfl, h1, h2⟩; have D5 := Aside0.mk h1; have G5 := Aside0.mk (HW.out.trans h2); clear h1 h2)
      | (go_at_call 25; refine (dsafe_at w5 _ g1 (sfS l more 0) (l.length : Int) rfl D5.out).mono ?_; rintro e w8 ⟨rfl, rfl⟩))
    clear hlt' HZ HW HD HOKS HLN HFS HAR HL0 HL1
    go_loopg [11, 12] more.length (fun g v11 v12 wr => ∃ (i : Nat), i ≤ more.length ∧ g + i = more.length ∧ v11 = .int .i64 i ∧ Aside0 (Db B wr g1 (sfS l more i)) ∧ Aside0 (Below B w wr))
    case atStart => exact ⟨0, by omega, by omega, rfl, D5, G5⟩
    case round =>
    clear G5 D5
    obtain ⟨i, hi, hg, rfl, HD, HW⟩ := hrel
    have HZ := Aside0.mk (show B ≤ wr.heap.size from Nat.le_trans (Nat.le_of_eq HBB.out) HW.out.size)
    have HOKS := Aside0.mk (ok_sf l more i h60 m60)
    have HLN := Aside0.mk (show (sfS l more i).recs.length < 1000000 from len_sf l more i h60 m60)
    have HFS := Aside0.mk (show Fine (sfS l more i).recs from HF.out.append (HFM.out.take i))
    have HAR := Aside0.mk (ar_sf l more i)
    have HL0 := Aside0.mk (show 0 ≤ (sfS l more i).limit by show (0 : Int) ≤ 131072; omega)
    have HL1 := Aside0.mk (show (sfS l more i).limit ≤ 1000000 by show (131072 : Int) ≤ 1000000; omega)
    by_cases hlt : i < more.length
    · have hlt' : (i : Int) < (more.length : Int) := by omega
      obtain ⟨ad, A4, c4, A5, c5, A10, c10, A14, c14, rfl, q0, q1, q2, q3, q4, q5, q6, q7, q8, q9, q10, q11, q12, q13, q14, l4, g4, l5, g5, l10, g10, l14, g14⟩ := at_T39 (Kd.C_below HCM.out (by rw [← HBB.out]; exact HW.out)) i (by omega) (by omega)
      have ex : rd_T39 more i = more.getD i z39 := rfl
      have hxi : more[i]? = some (rd_T39 more i) := by rw [ex]; simp [List.getD_eq_getElem?_getD, hlt]
      have hxs : Small (rd_T39 more i) := by rw [ex]; exact HSM.out.2 _ (by simp [List.getD_eq_getElem?_getD, hlt])
      clear ex
      simp only [Int.toNat_natCast] at q0 q1 q2 q3 q4 q5 q6 q7 q8 q9 q10 q11 q12 q13 q14
      generalize rd_T39 more i = x at *
      have HXI := Aside0.mk hxi
      have HXS := Aside0.mk hxs
      have hKx := k39_mk wr x l4 g4 l5 g5 l10 g10 l14 g14
      have HKX := Aside0.mk hKx
      clear hxs hKx hxi g4 g5 g10 g14 l4 l5 l10 l14
      by_cases hful : 131072 - roomsOf (l ++ more.take i) < room x
      · have H8 := Aside0.mk (put_sf_full l more i x hful)
        clear hful
        go_wp2_with (first
          | (go_at_call 13; with_reducible refine Calls.mono (put_at B wr g1 (sfS l more i) (sfS l more i) x (recs15 x (.slice A4 x.f1.f1.length c4) (.slice A5 x.f1.f2.length c5) (.slice A10 x.f3.length c10) (.slice A14 x.f7.length c14)) 8 H8.out HD.out HZ.out HKX.out HXS.out.lite HXS.out.helo HOKS.out HLN.out HFS.out HAR.out HL0.out HL1.out) ?_; rintro e w5 ⟨rfl, h1, h2⟩; have D5 := Aside0.mk h1; have G5 := Aside0.mk h2; have Z5 := Aside0.mk (Nat.le_trans HZ.out h2.size); clear h1 h2 q0 q1 q2 q3 q4 q5 q6 q7 q8 q9 q10 q11 q12 q13 q14)
          | (go_at_call 14; refine (wakesD_any w5).mono ?_; rintro e w20 ⟨rfl, h1⟩; have G20 := Aside0.mk h1; clear h1))
        go_ret
        refine ⟨rfl, ?_⟩
        rw [← HBB.out]
        exact (HW.out.trans G5.out).trans (G20.out.mono Z5.out)
      · have H0 := Aside0.mk (put_sf l more i x HXI.out hful)
        clear hful
        go_wp2_with (first
          | (go_at_call 13; with_reducible refine Calls.mono (put_at B wr g1 (sfS l more i) (sfS l more (i + 1)) x (recs15 x (.slice A4 x.f1.f1.length c4) (.slice A5 x.f1.f2.length c5) (.slice A10 x.f3.length c10) (.slice A14 x.f7.length c14)) 0 H0.out HD.out HZ.out HKX.out HXS.out.lite HXS.out.helo HOKS.out HLN.out HFS.out HAR.out HL0.out HL1.out) ?_; rintro e w5 ⟨rfl, h1, h2⟩; have D5 := Aside0.mk h1; have G5 := Aside0.mk h2; have Z5 := Aside0.mk (Nat.le_trans HZ.out h2.size); clear h1 h2 q0 q1 q2 q3 q4 q5 q6 q7 q8 q9 q10 q11 q12 q13 q14))
        go_roundg (gk - 1)
        case measure => omega
        case rel => exact ⟨i + 1, by omega, by omega, by go_num, D5, ⟨HW.out.trans G5.out⟩⟩
    have hlt' : ¬ (i : Int) < (more.length : Int) := by omega
    obtain rfl : i = more.length := by omega
    clear hlt
    have HCR := Aside0.mk (crash_sf l more keep kk HKK.out)
    have HOU := Aside0.mk (ok_sfU l more kk h60 m60 hkl)
    have HAU := Aside0.mk (ar_sfU l more kk)
    have HLU := Aside0.mk (show (sfU l more kk).recs.length < 1000000 from len_sf l more kk h60 m60)
    have HFU := Aside0.mk (show Fine (sfU l more kk).recs from HF.out.append (HFM.out.take kk))
    have HU0 := Aside0.mk (show 0 ≤ (sfU l more kk).limit by show (0 : Int) ≤ 131072; omega)
    have HU1 := Aside0.mk (show (sfU l more kk).limit ≤ 1000000 by show (131072 : Int) ≤ 1000000; omega)
    have HSMM := Aside0.mk (show ∀ y ∈ l ++ more.take kk, Small y from fun y hy => by
      rcases List.mem_append.1 hy with h | h
      · exact HS.out.2 y h
      · exact HSM.out.2 y (List.mem_of_mem_take h))
    obtain ⟨i39, hi39, _, _, _⟩ := info_parts info39
    have hkq := HKK.out
    by_cases hk0 : keep < 0
    · have hk1 : ¬ (more.length : Int) < 0 := by omega
      have HE := Aside0.mk (show (kk : Int) = (0 : Int) by omega)
      have hcut := cut_to (P := Try.prog) 22 39 .i64 Try.underlying22 hi39 Am more.length cm (0 : Int) (by omega) (by omega) hcm
      rw [show ((0 : Int)).toNat = kk by omega] at hcut
      have HCUT := Aside0.mk hcut
      have HVK := Aside0.mk (show Kd.F k39 w (fun j => j < B) Am kk (more.take kk) by have := Kd.F_take HVM.out hkl; rw [show (more.take kk).length = kk by rw [List.length_take]; omega] at this; exact this)
      clear hkq hcut
      go_wp2_with (first
        | (go_at_call 22; refine Calls.mono (crash_at B wr g1 (sfS l more more.length) (sfU l more kk) keep HCR.out HD.out HZ.out HOKS.out) ?_; rintro e w5 ⟨⟨v5, rfl⟩, h1, h2⟩; have D5 := Aside0.mk h1; have G5 := Aside0.mk (HW.out.trans h2); have Z5 := Aside0.mk (Nat.le_trans HZ.out h2.size); clear h1 h2)
        | (go_at_call 17; refine Calls.mono (dread_no w5 _ g1 (sfU l more kk) D5.out rfl) ?_; rintro e w6 ⟨rfl, rfl⟩)
        | (go_at_call 13; with_reducible refine Calls.mono (put_at B w5 g1 (sfU l more kk) (sfU l more kk) z39 (zcs 0) 7 (off_put _ _ rfl) D5.out Z5.out (z_K _) z_lite z_helo HOU.out HLU.out HFU.out HAU.out HU0.out HU1.out) ?_; rintro e w6 ⟨rfl, h1, h2⟩; have D6 := Aside0.mk h1; have G6 := Aside0.mk (G5.out.trans h2); have Z6 := Aside0.mk (Nat.le_trans Z5.out h2.size); clear h1 h2)
        | (go_at_call 15; refine Calls.mono (sync_at B w6 g1 _ (sfU l more kk) 7 (off_sync _ rfl) D6.out Z6.out HOU.out HAU.out) ?_; rintro e w7 ⟨rfl, h1, h2⟩; have D7 := Aside0.mk h1; have G7 := Aside0.mk (G6.out.trans h2); have Z7 := Aside0.mk (Nat.le_trans Z6.out h2.size); clear h1 h2)
        | (go_at_call 26; with_reducible refine Calls.mono (rnil_at B w7 g1 (sfU l more kk) D7.out Z7.out rfl HOU.out HAU.out) ?_; rintro e w8 ⟨rfl, h1, h2⟩; have D8 := Aside0.mk h1; have G8 := Aside0.mk (G7.out.trans h2); have Z8 := Aside0.mk (Nat.le_trans Z7.out h2.size); clear h1 h2)
        | (go_at_call 16; refine Calls.mono (startS_at B w8 g1 l more kk D8.out Z8.out) ?_; rintro e w9 ⟨⟨v9, rfl⟩, h1, h2⟩; have D9 := Aside0.mk h1; have G9 := Aside0.mk (G8.out.trans h2); have Z9 := Aside0.mk (Nat.le_trans Z8.out h2.size); clear h1 h2)
        | (go_at_call 17; refine Calls.mono (readS_at B w9 g1 l more kk D9.out HFU.out HLU.out hkl) ?_; rintro e w10 ⟨A9, c9, rfl, h0, h1, h2⟩; have C10 := Aside0.mk h0; have L10 := Aside0.mk h1; have G10 := Aside0.mk (G9.out.trans (h2.mono Z9.out)); have D10 := Aside0.mk (D9.out.after h2); have Z10 := Aside0.mk (Nat.le_trans Z9.out h2.size); clear h0 h1 h2))
      refine safe_last _ _ _ _ _ _ _ _ _ _ _ _ _ _ _ _ _ _ _ _ _ _ _ _ _ _ _ _ _ _ _ _ _ _ _ _ _ _ _ _ _ _ _ _ _ _ _ _ _ _ _ _ _ _ _ _ _ _ _ _ _ _ _ _ _ _ _ _ _ _ _ _ _ _ _ _ _ _ _ _ _ _ _ _ _ _ _ _ _ _ _ _ _ _ _ _ _ _ _ _ _ _ _ _ _ _ _ _ _ _ _ _ _ _  l more A A9 Am c c9 cm g1 kk (l.length + kk) B (0 : Int) w w10 h60 m60 hkl HE HV HVK hc HCUT HF HSMM G10 Z10 D10 C10 L10 ?_
      intro x W h6 hB
      have HX6 := Aside0.mk h6
      have HBX := Aside0.mk hB
      clear h6 hB
      go_wp2
      refine bodyPost_ret (results_tmp rfl _ _ _) rfl ?_
      refine ⟨by rw [HX6.out], ?_⟩
      rw [← HBB.out]
      exact HBX.out
    · by_cases hk2 : (more.length : Int) < keep
      · have HE := Aside0.mk (show (kk : Int) = (more.length : Int) by omega)
        have hcut := cut_to (P := Try.prog) 22 39 .i64 Try.underlying22 hi39 Am more.length cm (more.length : Int) (by omega) (by omega) hcm
        rw [show ((more.length : Int)).toNat = kk by omega] at hcut
        have HCUT := Aside0.mk hcut
        have HVK := Aside0.mk (show Kd.F k39 w (fun j => j < B) Am kk (more.take kk) by have := Kd.F_take HVM.out hkl; rw [show (more.take kk).length = kk by rw [List.length_take]; omega] at this; exact this)
        clear hkq hcut
        go_wp2_with (first
          | (go_at_call 22; refine Calls.mono (crash_at B wr g1 (sfS l more more.length) (sfU l more kk) keep HCR.out HD.out HZ.out HOKS.out) ?_; rintro e w5 ⟨⟨v5, rfl⟩, h1, h2⟩; have D5 := Aside0.mk h1; have G5 := Aside0.mk (HW.out.trans h2); have Z5 := Aside0.mk (Nat.le_trans HZ.out h2.size); clear h1 h2)
          | (go_at_call 17; refine Calls.mono (dread_no w5 _ g1 (sfU l more kk) D5.out rfl) ?_; rintro e w6 ⟨rfl, rfl⟩)
          | (go_at_call 13; with_reducible refine Calls.mono (put_at B w5 g1 (sfU l more kk) (sfU l more kk) z39 (zcs 0) 7 (off_put _ _ rfl) D5.out Z5.out (z_K _) z_lite z_helo HOU.out HLU.out HFU.out HAU.out HU0.out HU1.out) ?_; rintro e w6 ⟨rfl, h1, h2⟩; have D6 := Aside0.mk h1; have G6 := Aside0.mk (G5.out.trans h2); have Z6 := Aside0.mk (Nat.le_trans Z5.out h2.size); clear h1 h2)
          | (go_at_call 15; refine Calls.mono (sync_at B w6 g1 _ (sfU l more kk) 7 (off_sync _ rfl) D6.out Z6.out HOU.out HAU.out) ?_; rintro e w7 ⟨rfl, h1, h2⟩; have D7 := Aside0.mk h1; have G7 := Aside0.mk (G6.out.trans h2); have Z7 := Aside0.mk (Nat.le_trans Z6.out h2.size); clear h1 h2)
          | (go_at_call 26; with_reducible refine Calls.mono (rnil_at B w7 g1 (sfU l more kk) D7.out Z7.out rfl HOU.out HAU.out) ?_; rintro e w8 ⟨rfl, h1, h2⟩; have D8 := Aside0.mk h1; have G8 := Aside0.mk (G7.out.trans h2); have Z8 := Aside0.mk (Nat.le_trans Z7.out h2.size); clear h1 h2)
          | (go_at_call 16; refine Calls.mono (startS_at B w8 g1 l more kk D8.out Z8.out) ?_; rintro e w9 ⟨⟨v9, rfl⟩, h1, h2⟩; have D9 := Aside0.mk h1; have G9 := Aside0.mk (G8.out.trans h2); have Z9 := Aside0.mk (Nat.le_trans Z8.out h2.size); clear h1 h2)
          | (go_at_call 17; refine Calls.mono (readS_at B w9 g1 l more kk D9.out HFU.out HLU.out hkl) ?_; rintro e w10 ⟨A9, c9, rfl, h0, h1, h2⟩; have C10 := Aside0.mk h0; have L10 := Aside0.mk h1; have G10 := Aside0.mk (G9.out.trans (h2.mono Z9.out)); have D10 := Aside0.mk (D9.out.after h2); have Z10 := Aside0.mk (Nat.le_trans Z9.out h2.size); clear h0 h1 h2))
        refine safe_last _ _ _ _ _ _ _ _ _ _ _ _ _ _ _ _ _ _ _ _ _ _ _ _ _ _ _ _ _ _ _ _ _ _ _ _ _ _ _ _ _ _ _ _ _ _ _ _ _ _ _ _ _ _ _ _ _ _ _ _ _ _ _ _ _ _ _ _ _ _ _ _ _ _ _ _ _ _ _ _ _ _ _ _ _ _ _ _ _ _ _ _ _ _ _ _ _ _ _ _ _ _ _ _ _ _ _ _ _ _ _ _ _ _  l more A A9 Am c c9 cm g1 kk (l.length + kk) B (more.length : Int) w w10 h60 m60 hkl HE HV HVK hc HCUT HF HSMM G10 Z10 D10 C10 L10 ?_
        intro x W h6 hB
        have HX6 := Aside0.mk h6
        have HBX := Aside0.mk hB
        clear h6 hB
        go_wp2
        refine bodyPost_ret (results_tmp rfl _ _ _) rfl ?_
        refine ⟨by rw [HX6.out], ?_⟩
        rw [← HBB.out]
        exact HBX.out
      · have HE := Aside0.mk (show (kk : Int) = keep by omega)
        have hcut := cut_to (P := Try.prog) 22 39 .i64 Try.underlying22 hi39 Am more.length cm keep (by omega) (by omega) hcm
        rw [show (keep).toNat = kk by omega] at hcut
        have HCUT := Aside0.mk hcut
        have HVK := Aside0.mk (show Kd.F k39 w (fun j => j < B) Am kk (more.take kk) by have := Kd.F_take HVM.out hkl; rw [show (more.take kk).length = kk by rw [List.length_take]; omega] at this; exact this)
        clear hkq hcut
        go_wp2_with (first
          | (go_at_call 22; refine Calls.mono (crash_at B wr g1 (sfS l more more.length) (sfU l more kk) keep HCR.out HD.out HZ.out HOKS.out) ?_; rintro e w5 ⟨⟨v5, rfl⟩, h1, h2⟩; have D5 := Aside0.mk h1; have G5 := Aside0.mk (HW.out.trans h2); have Z5 := Aside0.mk (Nat.le_trans HZ.out h2.size); clear h1 h2)
          | (go_at_call 17; refine Calls.mono (dread_no w5 _ g1 (sfU l more kk) D5.out rfl) ?_; rintro e w6 ⟨rfl, rfl⟩)
          | (go_at_call 13; with_reducible refine Calls.mono (put_at B w5 g1 (sfU l more kk) (sfU l more kk) z39 (zcs 0) 7 (off_put _ _ rfl) D5.out Z5.out (z_K _) z_lite z_helo HOU.out HLU.out HFU.out HAU.out HU0.out HU1.out) ?_; rintro e w6 ⟨rfl, h1, h2⟩; have D6 := Aside0.mk h1; have G6 := Aside0.mk (G5.out.trans h2); have Z6 := Aside0.mk (Nat.le_trans Z5.out h2.size); clear h1 h2)
          | (go_at_call 15; refine Calls.mono (sync_at B w6 g1 _ (sfU l more kk) 7 (off_sync _ rfl) D6.out Z6.out HOU.out HAU.out) ?_; rintro e w7 ⟨rfl, h1, h2⟩; have D7 := Aside0.mk h1; have G7 := Aside0.mk (G6.out.trans h2); have Z7 := Aside0.mk (Nat.le_trans Z6.out h2.size); clear h1 h2)
          | (go_at_call 26; with_reducible refine Calls.mono (rnil_at B w7 g1 (sfU l more kk) D7.out Z7.out rfl HOU.out HAU.out) ?_; rintro e w8 ⟨rfl, h1, h2⟩; have D8 := Aside0.mk h1; have G8 := Aside0.mk (G7.out.trans h2); have Z8 := Aside0.mk (Nat.le_trans Z7.out h2.size); clear h1 h2)
          | (go_at_call 16; refine Calls.mono (startS_at B w8 g1 l more kk D8.out Z8.out) ?_; rintro e w9 ⟨⟨v9, rfl⟩, h1, h2⟩; have D9 := Aside0.mk h1; have G9 := Aside0.mk (G8.out.trans h2); have Z9 := Aside0.mk (Nat.le_trans Z8.out h2.size); clear h1 h2)
          | (go_at_call 17; refine Calls.mono (readS_at B w9 g1 l more kk D9.out HFU.out HLU.out hkl) ?_; rintro e w10 ⟨A9, c9, rfl, h0, h1, h2⟩; have C10 := Aside0.mk h0; have L10 := Aside0.mk h1; have G10 := Aside0.mk (G9.out.trans (h2.mono Z9.out)); have D10 := Aside0.mk (D9.out.after h2); have Z10 := Aside0.mk (Nat.le_trans Z9.out h2.size); clear h0 h1 h2))
        refine safe_last _ _ _ _ _ _ _ _ _ _ _ _ _ _ _ _ _ _ _ _ _ _ _ _ _ _ _ _ _ _ _ _ _ _ _ _ _ _ _ _ _ _ _ _ _ _ _ _ _ _ _ _ _ _ _ _ _ _ _ _ _ _ _ _ _ _ _ _ _ _ _ _ _ _ _ _ _ _ _ _ _ _ _ _ _ _ _ _ _ _ _ _ _ _ _ _ _ _ _ _ _ _ _ _ _ _ _ _ _ _ _ _ _ _  l more A A9 Am c c9 cm g1 kk (l.length + kk) B keep w w10 h60 m60 hkl HE HV HVK hc HCUT HF HSMM G10 Z10 D10 C10 L10 ?_
        intro x W h6 hB
        have HX6 := Aside0.mk h6
        have HBX := Aside0.mk hB
        clear h6 hB
        go_wp2
        refine bodyPost_ret (results_tmp rfl _ _ _) rfl ?_
        refine ⟨by rw [HX6.out], ?_⟩
        rw [← HBB.out]
        exact HBX.out

theorem dysafe_any (l : List S39) (A : Option Addr) (c : Nat) (more : List S39) (Am : Option Addr) (cm : Nat) (keep : Int) (hG : OkL Ok39 l) (hc : l.length ≤ c) {w : World} (hC : k39.C w A l.length l) (hGm : OkL Ok39 more) (hcm : more.length ≤ cm) (hCm : k39.C w Am more.length more) (_ : (Lit.int .i64 keep).wf = true) : Calls Try.prog 6 #[.slice A l.length c, .slice Am more.length cm, .int .i64 keep] w fun e w' => e = .returned (.bool true) ∧ Below w.heap.size w w' := safe_any0 l A c more Am cm keep hG hc hGm hcm w hC hCm
end Go.Proofs.Ytbkfdejcmimhgaa
