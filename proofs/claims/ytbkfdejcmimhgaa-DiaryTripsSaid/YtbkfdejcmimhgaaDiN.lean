/- The walk of DiaryTrips. -/
import Derived.Test.YtbkfdejcmimhgaaProg
import Derived.WalkKit
import Derived.WalkLawsBesides
import Derived.Outline
import Derived.LoopTactic
import Derived.Lib.Hide
import Derived.Deep.QuietTactic
import Derived.BigQuiet
import Derived.Deep.LoopGhost
import Derived.Deep.DeepCutAuto
import Derived.Deep.CutBlock
import Derived.Deep.RegionHeld3
import Derived.Deep.RegionWith
import Derived.Deep.WholeRow
import Derived.Laws.Rows
import Derived.Laws.Tables
import Derived.Laws.ResultCell
import Derived.StillTailTactics
import Derived.Deep.DeepMust
import Derived.IntWalk
import Derived.KernelRfl
import Derived.Test.YtbkfdejcmimhgaaWWords
import Derived.Test.YtbkfdejcmimhgaaWLast
import Derived.Test.YtbkfdejcmimhgaaWMore
import Derived.RegionTactic
import Derived.Test.YtbkfdejcmimhgaaDiM
import Derived.Test.YtbkfdejcmimhgaaSame
namespace Go.Proofs.Ytbkfdejcmimhgaa
open Go.RowKit Go.Proofs.YtbkfdejcmimhgaaW.PrintWords Go.Proofs.YtbkfdejcmimhgaaW.PrintMore Go.Proofs.Ytbkfdejcmimhgaa.PDiaryExact
set_option linter.unusedVariables false
set_option linter.unusedSimpArgs false
attribute [local go_sem] max2_int min2_int max_two min_two
def trA (l : List S39) (keep : Int) (m i : Nat) : DSt := ⟨131072, l.take i, 0, false, 0, (m : Int) - i, keep, 0⟩
def trB (l : List S39) (keep : Int) (kk : Nat) : DSt := ⟨131072, l.take kk, kk, true, 1, 0, keep, kk⟩
def trC (l : List S39) (keep : Int) (kk : Nat) : DSt := ⟨131072, l.take kk, kk, false, 1, 0, keep, kk⟩
def trD (l : List S39) (keep : Int) (kk : Nat) : DSt := ⟨131072, l.take kk, kk, false, 1, 0, keep, 0⟩
theorem take_add (l : List S39) (i : Nat) (x : S39) (h : l[i]? = some x) : l.take i ++ [x] = l.take (i + 1) := by
  rw [List.take_add_one, h]; rfl
theorem arm_eq (n : Int) (k : Nat) (hk : k ≤ 60) : ∃ m : Nat, wrap64 (1 + wrap64 ((IntKind.u64.wrap n).tmod ((k : Int) + 1))) = (m : Int) ∧ 1 ≤ m ∧ m ≤ k + 1 := by
  have h0 : 0 ≤ IntKind.u64.wrap n := by
    show 0 ≤ n % 2 ^ 64
    omega
  have e : (IntKind.u64.wrap n).tmod ((k : Int) + 1) = (IntKind.u64.wrap n) % ((k : Int) + 1) := Int.tmod_eq_emod_of_nonneg h0
  have a := Int.emod_nonneg (IntKind.u64.wrap n) (b := (k : Int) + 1) (by omega)
  have b := Int.emod_lt_of_pos (IntKind.u64.wrap n) (b := (k : Int) + 1) (by omega)
  rw [e]
  generalize (IntKind.u64.wrap n) % ((k : Int) + 1) = y at a b
  refine ⟨(1 + y).toNat, ?_, by omega, by omega⟩
  rw [wr_id' y (by omega) (by omega), wr_id' _ (by omega) (by omega)]
  omega
theorem crash_mk (recs : List S39) (keep : Int) (kk : Nat) (hk : (kk : Int) = min (max keep 0) (recs.length : Int)) : DSt.crash ⟨131072, recs, 0, false, 0, 0, keep, 0⟩ keep = ⟨131072, recs.take kk, kk, true, 1, 0, keep, kk⟩ := by
  have h3 : DSt.stay ⟨131072, recs, 0, false, 0, 0, keep, 0⟩ keep = kk := by
    unfold DSt.stay
    show min (max keep 0) ((recs.length : Int) - 0) = kk
    omega
  have e : ∀ st : Int, st = (kk : Int) → DSt.mk 131072 (recs.take (0 + st).toNat) (0 + st) true (0 + 1) 0 keep (0 + st) = DSt.mk 131072 (recs.take kk) kk true 1 0 keep kk := by
    rintro _ rfl
    have h4 : ((0 : Int) + kk).toNat = kk := by omega
    have h5 : ((0 : Int) + kk) = kk := by omega
    rw [h4, h5]
    rfl
  exact (if_neg (fun h => by cases h)).trans (e _ h3)
theorem put_A (l : List S39) (keep : Int) (m i : Nat) (x : S39) (hx : l[i]? = some x) (h : ¬ 131072 - roomsOf (l.take i) < room x) (hm : i + 1 < m) : (trA l keep m i).put x = (0, trA l keep m (i + 1)) := by
  unfold DSt.put
  rw [if_neg (show ¬ (trA l keep m i).off = true by show ¬ (false = true); decide), if_neg (show ¬ (trA l keep m i).limit - roomsOf (trA l keep m i).recs < room x from h)]
  have h1 : ((trA l keep m i).add x).hit = false := by unfold DSt.hit DSt.add trA; simp; omega
  have h2 : ((trA l keep m i).add x).tick = trA l keep m (i + 1) := by
    unfold DSt.tick DSt.add trA
    rw [if_neg (by show ¬ ((m : Int) - i = 0); omega)]
    show DSt.mk _ _ _ _ _ _ _ _ = DSt.mk _ _ _ _ _ _ _ _
    rw [take_add l i x hx]
    congr 1
    push_cast; omega
  rw [if_neg (by rw [h1]; decide), h2]
theorem put_L (l : List S39) (keep : Int) (m i kk : Nat) (x : S39) (hx : l[i]? = some x) (h : ¬ 131072 - roomsOf (l.take i) < room x) (hm : i + 1 = m) (hk : (kk : Int) = min (max keep 0) (min (m : Int) l.length)) : (trA l keep m i).put x = (7, trB l keep kk) := by
  have hil : i < l.length := (List.getElem?_eq_some_iff.1 hx).1
  unfold DSt.put
  rw [if_neg (show ¬ (trA l keep m i).off = true by show ¬ (false = true); decide), if_neg (show ¬ (trA l keep m i).limit - roomsOf (trA l keep m i).recs < room x from h)]
  have h1 : ((trA l keep m i).add x).hit = true := by unfold DSt.hit DSt.add trA; simp; omega
  have h2 : ((trA l keep m i).add x).tick = ⟨131072, l.take (i + 1), 0, false, 0, 0, keep, 0⟩ := by
    unfold DSt.tick DSt.add trA
    rw [if_neg (by show ¬ ((m : Int) - i = 0); omega)]
    show DSt.mk _ _ _ _ _ _ _ _ = DSt.mk _ _ _ _ _ _ _ _
    rw [take_add l i x hx]
    congr 1
    show (m : Int) - i - 1 = 0
    omega
  rw [if_pos h1, h2]
  show (7, DSt.crash ⟨131072, l.take (i + 1), 0, false, 0, 0, keep, 0⟩ keep) = _
  rw [crash_mk (l.take (i + 1)) keep kk (by rw [List.length_take]; omega), List.take_take, Nat.min_eq_left (by omega)]
  rfl
theorem sync_L (l : List S39) (keep : Int) (kk : Nat) (hk : (kk : Int) = min (max keep 0) (l.length : Int)) : (trA l keep (l.length + 1) l.length).sync = (7, trB l keep kk) := by
  unfold DSt.sync
  rw [if_neg (show ¬ (trA l keep (l.length + 1) l.length).off = true by show ¬ (false = true); decide)]
  have h1 : (trA l keep (l.length + 1) l.length).hit = true := by unfold DSt.hit trA; simp; omega
  have h2 : (trA l keep (l.length + 1) l.length).tick = ⟨131072, l, 0, false, 0, 0, keep, 0⟩ := by
    unfold DSt.tick trA
    rw [if_neg (by show ¬ (((l.length + 1 : Nat) : Int) - l.length = 0); omega)]
    show DSt.mk _ _ _ _ _ _ _ _ = DSt.mk _ _ _ _ _ _ _ _
    rw [List.take_length]
    congr 1
    show ((l.length + 1 : Nat) : Int) - l.length - 1 = 0
    omega
  rw [if_pos h1, h2]
  show (7, DSt.crash ⟨131072, l, 0, false, 0, 0, keep, 0⟩ keep) = _
  rw [crash_mk l keep kk hk]
  rfl
theorem put_B (l : List S39) (keep : Int) (kk : Nat) (x : S39) : (trB l keep kk).put x = (7, trB l keep kk) := by
  unfold DSt.put
  rw [if_pos (show (trB l keep kk).off = true from rfl)]
theorem put_full_A (l : List S39) (keep : Int) (m i : Nat) (x : S39) (h : 131072 - roomsOf (l.take i) < room x) : (trA l keep m i).put x = (8, trA l keep m i) := put_full _ x rfl h
theorem sync_C (l : List S39) (keep : Int) (kk : Nat) (h : kk ≤ l.length) : (trC l keep kk).sync = (0, trD l keep kk) := by
  unfold DSt.sync
  rw [if_neg (show ¬ (trC l keep kk).off = true by show ¬ (false = true); decide)]
  have h1 : (trC l keep kk).hit = false := rfl
  have h2 : (trC l keep kk).tick = trC l keep kk := rfl
  rw [if_neg (by rw [h1]; decide), h2]
  show (0, DSt.mk 131072 (l.take kk) ((l.take kk).length : Int) false 1 0 keep 0) = _
  rw [List.length_take, Nat.min_eq_left h]
  rfl
theorem ok_A (l : List S39) (keep : Int) (m i : Nat) (hl : l.length ≤ 60) : (trA l keep m i).Ok := by
  unfold DSt.Ok trA
  simp only [List.length_take]
  omega
theorem ok_B (l : List S39) (keep : Int) (kk : Nat) (hl : l.length ≤ 60) (h : kk ≤ l.length) : (trB l keep kk).Ok := by
  unfold DSt.Ok trB
  simp only [List.length_take]
  omega
theorem ok_C (l : List S39) (keep : Int) (kk : Nat) (hl : l.length ≤ 60) (h : kk ≤ l.length) : (trC l keep kk).Ok := by
  unfold DSt.Ok trC
  simp only [List.length_take]
  omega
theorem ar_A (l : List S39) (keep : Int) (m i : Nat) (h : i ≤ m) (hm : m ≤ 61) : (trA l keep m i).Armed := by
  unfold DSt.Armed trA
  show 0 ≤ ((m : Int) - i) ∧ ((m : Int) - i) ≤ 9223372036854775807
  omega
theorem ar_B (l : List S39) (keep : Int) (kk : Nat) : (trB l keep kk).Armed := ⟨Int.le_refl _, by show (0 : Int) ≤ _; omega⟩
theorem ar_C (l : List S39) (keep : Int) (kk : Nat) : (trC l keep kk).Armed := ⟨Int.le_refl _, by show (0 : Int) ≤ _; omega⟩
theorem len_tr (l : List S39) (i : Nat) (hl : l.length ≤ 60) : (l.take i).length < 1000000 := by rw [List.length_take]; omega
theorem trip_at (B : Nat) (W : World) (g : Nat) (l : List S39) (n keep : Int) (m : Nat) (hn : n = m) (h : Db B W g (DSt.new 131072)) (hB : B ≤ W.heap.size) : Calls Try.prog 12 #[.pointer (some ⟨g, 0, none⟩), .int .i64 n, .int .i64 keep] W fun e w' => (∃ v, e = .returned v) ∧ Db B w' g (trA l keep m 0) ∧ Below B W w' := by
  refine (dtrip W _ g (DSt.new 131072) n keep (m : Int) (by omega) h).mono ?_
  rintro e w ⟨hv, h1, h2⟩
  refine ⟨hv, ?_, h2.behind hB (fun k hk => hk)⟩
  have e : ({ DSt.new 131072 with armed := (m : Int), keep := keep } : DSt) = trA l keep m 0 := by
    unfold DSt.new trA
    simp
  rw [← e]
  exact h1
theorem startB_at (B : Nat) (W : World) (g : Nat) (l : List S39) (keep : Int) (kk : Nat) (h : Db B W g (trB l keep kk)) (hB : B ≤ W.heap.size) : Calls Try.prog 16 #[.pointer (some ⟨g, 0, none⟩)] W fun e w' => (∃ v, e = .returned v) ∧ Db B w' g (trC l keep kk) ∧ Below B W w' := start_at B W g (trB l keep kk) h hB
theorem readC_at (B : Nat) (W : World) (g : Nat) (l : List S39) (keep : Int) (kk : Nat) (h : Db B W g (trC l keep kk)) (hF : Fine l) (hl : l.length ≤ 60) (hk : kk ≤ l.length) : Calls Try.prog 17 #[.pointer (some ⟨g, 0, none⟩)] W fun e w' => ∃ A c, e = .returned (.tuple #[.slice A kk c, .int .i64 0]) ∧ k39.C w' A kk (l.take kk) ∧ kk ≤ c ∧ Below W.heap.size W w' := by
  refine (dread_yes W _ g (trC l keep kk) h rfl (hF.take kk) (by have := len_tr l kk hl; show (l.take kk).length ≤ _; omega)).mono ?_
  rintro e w ⟨v, rfl, h1, h2⟩
  obtain ⟨A, c, rfl⟩ := Kd.N_slice h1
  have hr := Kd.N_reads' h1
  have hn : (l.take kk).length = kk := by rw [List.length_take]; omega
  have e3 : (trC l keep kk).recs = l.take kk := rfl
  rw [e3] at hr ⊢
  rw [hn] at hr ⊢
  exact ⟨A, c, rfl, hr.2.2, hr.2.1, h2⟩
set_option maxRecDepth 100000 in
set_option maxHeartbeats 8000000 in
theorem trips_any0 (l : List S39) (A : Option Addr) (c : Nat) (n keep : Int) (hG : OkL Ok39 l) (hc : l.length ≤ c) (w : World) (hC : k39.C w A l.length l) : Calls Try.prog 3 #[.slice A l.length c, .int .i64 n, .int .i64 keep] w fun e w' => e = .returned (.bool true) ∧ Below w.heap.size w w' := by
  obtain ⟨b, hb, hs⟩ := h18 l hG.2
  have HB := Aside0.mk hb
  have HCC := Aside0.mk hC
  clear hb hC
  cases b with
  | true =>
    clear hs
    go_enter Try.func3, Try.ntmps3
    go_wp2_with (first | (go_at_call 10; refine (heavy_any true HCC.out hc HB.out).mono ?_; rintro e w3 ⟨rfl, h1⟩; have G3 := Aside0.mk h1; clear h1))
    go_ret
    exact ⟨rfl, G3.out⟩
  | false =>
    have HS := Aside0.mk (hs rfl)
    have h60 : l.length ≤ 60 := HS.out.1
    clear hs
    obtain ⟨B, hB⟩ : ∃ B, B = w.heap.size := ⟨_, rfl⟩
    have HBB := Aside0.mk hB
    clear hB
    by_cases hz : l.length = 0
    · have hz1 : ((l.length : Int) == 0) = true := by rw [hz]; rfl
      have HZ0 := Aside0.mk hz
      clear hz
      go_enter Try.func3, Try.ntmps3
      go_wp2_with (first | (go_at_call 10; refine (heavy_any false HCC.out hc HB.out).mono ?_; rintro e w3 ⟨rfl, h1⟩; have G3 := Aside0.mk h1; clear h1))
      go_ret
      exact ⟨rfl, G3.out⟩
    have hz1 : ((l.length : Int) == 0) = false := by simp; intro h; exact hz (by rw [h]; rfl)
    obtain ⟨m, hm, hm1, hm2⟩ := arm_eq n l.length h60
    have HM := Aside0.mk hm
    obtain ⟨kk, hkk⟩ : ∃ kk : Nat, (kk : Int) = min (max keep 0) (min (m : Int) l.length) := ⟨(min (max keep 0) (min (m : Int) l.length)).toNat, by omega⟩
    have hkl : kk ≤ l.length := by omega
    have HKK := Aside0.mk hkk
    clear hkk hm
    go_enter Try.func3, Try.ntmps3
    go_wp2_with (first
      | (go_at_call 10; refine (heavy_any false HCC.out hc HB.out).mono ?_; rintro e w3 ⟨rfl, h1⟩; rw [← HBB.out] at h1; have G3 := Aside0.mk h1; clear h1)
      | (go_at_call 11; refine (new_at B 131072 (by decide) (by decide) w3 (by have := G3.out.size; have := HBB.out; omega)).mono ?_; rintro e w4 ⟨rfl, h1, h2⟩; obtain ⟨g1, hg1⟩ : ∃ g1, g1 = w3.heap.size := ⟨_, rfl⟩; have HG1 := Aside0.mk hg1; rw [← hg1] at h1 h2 ⊢; have D4 := Aside0.mk h1; have G4 := Aside0.mk h2; have Z4 := Aside0.mk (show B ≤ w4.heap.size by have := G3.out.size; have := h2.size; have := HBB.out; omega); clear h1 h2 hg1)
      | (go_at_call 12; refine Calls.mono (trip_at B w4 g1 l _ keep m HM.out D4.out Z4.out) ?_; rintro e w6 ⟨⟨v6, rfl⟩, h1, h2⟩; have D6 := Aside0.mk h1; have G6 := Aside0.mk h2; clear h1 h2))
    rw [HM.out]
    go_loopg [9, 10] l.length (fun g v9 v10 wr => ∃ (i : Nat), i ≤ l.length ∧ g + i = l.length ∧ v9 = .int .i64 i ∧ ((i < m ∧ Aside0 (Db B wr g1 (trA l keep m i))) ∨ (m ≤ i ∧ Aside0 (Db B wr g1 (trB l keep kk)))) ∧ Aside0 (Below B w wr))
    case atStart =>
      refine ⟨0, by omega, by omega, rfl, .inl ⟨by omega, D6⟩, ⟨?_⟩⟩
      exact (G3.out.trans (G4.out.mono (by have := G3.out.size; have := HG1.out; have := HBB.out; omega))).trans G6.out
    case round =>
    obtain ⟨i, hi, hg, rfl, HDD, HW⟩ := hrel
    have HZ := Aside0.mk (show B ≤ wr.heap.size from Nat.le_trans (Nat.le_of_eq HBB.out) HW.out.size)
    have HF := Aside0.mk (fine_of_small HS.out.2)
    by_cases hlt : i < l.length
    · have hlt' : (i : Int) < (l.length : Int) := by omega
      obtain ⟨ad, A4, c4, A5, c5, A10, c10, A14, c14, rfl, q0, q1, q2, q3, q4, q5, q6, q7, q8, q9, q10, q11, q12, q13, q14, l4, g4, l5, g5, l10, g10, l14, g14⟩ := at_T39 (Kd.C_below HCC.out (by rw [← HBB.out]; exact HW.out)) i (by omega) (by omega)
      have ex : rd_T39 l i = l.getD i z39 := rfl
      have hxi : l[i]? = some (rd_T39 l i) := by rw [ex]; simp [List.getD_eq_getElem?_getD, hlt]
      have hxs : Small (rd_T39 l i) := by rw [ex]; exact HS.out.2 _ (by simp [List.getD_eq_getElem?_getD, hlt])
      clear ex
      simp only [Int.toNat_natCast] at q0 q1 q2 q3 q4 q5 q6 q7 q8 q9 q10 q11 q12 q13 q14
      generalize rd_T39 l i = x at *
      have HXI := Aside0.mk hxi
      have HXS := Aside0.mk hxs
      have hKx := k39_mk wr x l4 g4 l5 g5 l10 g10 l14 g14
      have HKX := Aside0.mk hKx
      clear hxs hKx hxi g4 g5 g10 g14 l4 l5 l10 l14
      rcases HDD with ⟨him, HD⟩ | ⟨hmi, HD⟩
      · have HOKS := Aside0.mk (ok_A l keep m i h60)
        have HLN := Aside0.mk (show (trA l keep m i).recs.length < 1000000 from len_tr l i h60)
        have HFS := Aside0.mk (show Fine (trA l keep m i).recs from HF.out.take i)
        have HAR := Aside0.mk (ar_A l keep m i (by omega) (by omega))
        have HL0 := Aside0.mk (show 0 ≤ (trA l keep m i).limit by show (0 : Int) ≤ 131072; decide)
        have HL1 := Aside0.mk (show (trA l keep m i).limit ≤ 1000000 by show (131072 : Int) ≤ 1000000; decide)
        by_cases hful : 131072 - roomsOf (l.take i) < room x
        · have H8 := Aside0.mk (put_full_A l keep m i x hful)
          clear hful hlt
          go_wp2_with (first
            | (go_at_call 13; with_reducible refine Calls.mono (put_at B wr g1 (trA l keep m i) (trA l keep m i) x (recs15 x (.slice A4 x.f1.f1.length c4) (.slice A5 x.f1.f2.length c5) (.slice A10 x.f3.length c10) (.slice A14 x.f7.length c14)) 8 H8.out HD.out HZ.out HKX.out HXS.out.lite HXS.out.helo HOKS.out HLN.out HFS.out HAR.out HL0.out HL1.out) ?_; rintro e w5 ⟨rfl, h1, h2⟩; have D5 := Aside0.mk h1; have G5 := Aside0.mk h2; have Z5 := Aside0.mk (Nat.le_trans HZ.out h2.size); clear h1 h2 q0 q1 q2 q3 q4 q5 q6 q7 q8 q9 q10 q11 q12 q13 q14)
            | (go_at_call 14; refine (wakesD_any w5).mono ?_; rintro e w20 ⟨rfl, h1⟩; have G20 := Aside0.mk h1; clear h1))
          go_ret
          refine ⟨rfl, ?_⟩
          rw [← HBB.out]
          exact (HW.out.trans G5.out).trans (G20.out.mono Z5.out)
        · by_cases hnx : i + 1 < m
          · have H0 := Aside0.mk (put_A l keep m i x HXI.out hful hnx)
            have hq : (i : Int) < (m : Int) - 1 := by omega
            clear hful hlt
            go_wp2_with (first
              | (go_at_call 13; with_reducible refine Calls.mono (put_at B wr g1 (trA l keep m i) (trA l keep m (i + 1)) x (recs15 x (.slice A4 x.f1.f1.length c4) (.slice A5 x.f1.f2.length c5) (.slice A10 x.f3.length c10) (.slice A14 x.f7.length c14)) 0 H0.out HD.out HZ.out HKX.out HXS.out.lite HXS.out.helo HOKS.out HLN.out HFS.out HAR.out HL0.out HL1.out) ?_; rintro e w5 ⟨rfl, h1, h2⟩; have D5 := Aside0.mk h1; have G5 := Aside0.mk h2; have Z5 := Aside0.mk (Nat.le_trans HZ.out h2.size); clear h1 h2 q0 q1 q2 q3 q4 q5 q6 q7 q8 q9 q10 q11 q12 q13 q14))
            go_roundg (gk - 1)
            case measure => omega
            case rel => exact ⟨i + 1, by omega, by omega, by go_num, .inl ⟨hnx, D5⟩, ⟨HW.out.trans G5.out⟩⟩
          · have H7 := Aside0.mk (put_L l keep m i kk x HXI.out hful (by omega) HKK.out)
            have hq : ¬ (i : Int) < (m : Int) - 1 := by omega
            clear hful hlt
            go_wp2_with (first
              | (go_at_call 13; with_reducible refine Calls.mono (put_at B wr g1 (trA l keep m i) (trB l keep kk) x (recs15 x (.slice A4 x.f1.f1.length c4) (.slice A5 x.f1.f2.length c5) (.slice A10 x.f3.length c10) (.slice A14 x.f7.length c14)) 7 H7.out HD.out HZ.out HKX.out HXS.out.lite HXS.out.helo HOKS.out HLN.out HFS.out HAR.out HL0.out HL1.out) ?_; rintro e w5 ⟨rfl, h1, h2⟩; have D5 := Aside0.mk h1; have G5 := Aside0.mk h2; have Z5 := Aside0.mk (Nat.le_trans HZ.out h2.size); clear h1 h2 q0 q1 q2 q3 q4 q5 q6 q7 q8 q9 q10 q11 q12 q13 q14))
            go_roundg (gk - 1)
            case measure => omega
            case rel => exact ⟨i + 1, by omega, by omega, by go_num, .inr ⟨by omega, D5⟩, ⟨HW.out.trans G5.out⟩⟩
      · have HOKS := Aside0.mk (ok_B l keep kk h60 hkl)
        have HLN := Aside0.mk (show (trB l keep kk).recs.length < 1000000 from len_tr l kk h60)
        have HFS := Aside0.mk (show Fine (trB l keep kk).recs from HF.out.take kk)
        have HAR := Aside0.mk (ar_B l keep kk)
        have HL0 := Aside0.mk (show 0 ≤ (trB l keep kk).limit by show (0 : Int) ≤ 131072; decide)
        have HL1 := Aside0.mk (show (trB l keep kk).limit ≤ 1000000 by show (131072 : Int) ≤ 1000000; decide)
        have H7 := Aside0.mk (put_B l keep kk x)
        have hq : ¬ (i : Int) < (m : Int) - 1 := by omega
        clear hlt
        go_wp2_with (first
          | (go_at_call 13; with_reducible refine Calls.mono (put_at B wr g1 (trB l keep kk) (trB l keep kk) x (recs15 x (.slice A4 x.f1.f1.length c4) (.slice A5 x.f1.f2.length c5) (.slice A10 x.f3.length c10) (.slice A14 x.f7.length c14)) 7 H7.out HD.out HZ.out HKX.out HXS.out.lite HXS.out.helo HOKS.out HLN.out HFS.out HAR.out HL0.out HL1.out) ?_; rintro e w5 ⟨rfl, h1, h2⟩; have D5 := Aside0.mk h1; have G5 := Aside0.mk h2; have Z5 := Aside0.mk (Nat.le_trans HZ.out h2.size); clear h1 h2 q0 q1 q2 q3 q4 q5 q6 q7 q8 q9 q10 q11 q12 q13 q14))
        go_roundg (gk - 1)
        case measure => omega
        case rel => exact ⟨i + 1, by omega, by omega, by go_num, .inr ⟨by omega, D5⟩, ⟨HW.out.trans G5.out⟩⟩
    · have hlt' : ¬ (i : Int) < (l.length : Int) := by omega
      obtain rfl : i = l.length := by omega
      clear hlt
      have HOB := Aside0.mk (ok_B l keep kk h60 hkl)
      have HOC := Aside0.mk (ok_C l keep kk h60 hkl)
      have HRC := Aside0.mk (ar_C l keep kk)
      have HSC := Aside0.mk (sync_C l keep kk hkl)
      have HKL := Aside0.mk hkl
      have HC6 := Aside0.mk h60
      have htl : (l.take kk).length = kk := by rw [List.length_take]; omega
      have HTL := Aside0.mk htl
      have HSM := Aside0.mk (show ∀ y ∈ l.take kk, Small y from fun y hy => HS.out.2 y (List.mem_of_mem_take hy))
      obtain ⟨i39, hi39, _, _, _⟩ := info_parts info39
      clear htl
      rcases HDD with ⟨him, HD⟩ | ⟨hmi, HD⟩
      · obtain rfl : m = l.length + 1 := by omega
        have H7 := Aside0.mk (sync_L l keep kk (by have := HKK.out; omega))
        have HOA := Aside0.mk (ok_A l keep (l.length + 1) l.length h60)
        have HRA := Aside0.mk (ar_A l keep (l.length + 1) l.length (by omega) (by omega))
        have hlm : (l.length : Int) < ((l.length + 1 : Nat) : Int) := by omega
        have hlm1 : (((l.length + 1 : Nat) : Int) == (l.length : Int) + 1) = true := by simp
        have hkq := HKK.out
        by_cases hk0 : keep < 0
        · have hk1 : ¬ (l.length : Int) < 0 := by omega
          have HE := Aside0.mk (show (kk : Int) = (0 : Int) by omega)
          have hcut := cut_to (P := Try.prog) 22 39 .i64 Try.underlying22 hi39 A l.length c (0 : Int) (by omega) (by omega) hc
          rw [show ((0 : Int)).toNat = kk by omega] at hcut
          clear hkq
          go_wp2_with (first
            | (go_at_call 15; refine Calls.mono (sync_at B wr g1 _ _ 7 H7.out HD.out HZ.out HOA.out HRA.out) ?_; rintro e w5 ⟨rfl, h1, h2⟩; have D5 := Aside0.mk h1; have G5 := Aside0.mk h2; have Z5 := Aside0.mk (Nat.le_trans HZ.out h2.size); clear h1 h2)
            | (go_at_call 16; refine Calls.mono (startB_at B w5 g1 l keep kk D5.out Z5.out) ?_; rintro e w8 ⟨⟨v8, rfl⟩, h1, h2⟩; have D8 := Aside0.mk h1; have G8 := Aside0.mk h2; have Z8 := Aside0.mk (Nat.le_trans Z5.out h2.size); clear h1 h2)
            | (go_at_call 17; refine Calls.mono (readC_at B w8 g1 l keep kk D8.out HF.out HC6.out HKL.out) ?_; rintro e w9 ⟨A9, c9, rfl, h0, h1, h2⟩; have C9 := Aside0.mk h0; have L9 := Aside0.mk h1; have G9 := Aside0.mk (h2.mono Z8.out); have D9 := Aside0.mk (D8.out.after h2); have Z9 := Aside0.mk (Nat.le_trans Z8.out h2.size); clear h0 h1 h2)
            | (go_at_call 18; refine (dlife_at w9 _ g1 (trC l keep kk) 1 rfl D9.out).mono ?_; rintro e w10 ⟨rfl, rfl⟩)
            | (go_at_call 19; refine (recs_at w9 A9 c9 kk A c kk (l.take kk) HSM.out (by rw [HTL.out]; have := HKL.out; have := HC6.out; omega) C9.out L9.out (by have := Kd.C_take (Kd.C_below HCC.out (by rw [← HBB.out]; exact (((HW.out.trans G5.out).trans G8.out).trans G9.out))) HKL.out; rw [HTL.out] at this; exact this) (by have := HKL.out; omega)).mono ?_; rintro e w11 ⟨rfl, h1⟩; have G11 := Aside0.mk (h1.mono Z9.out); have D11 := Aside0.mk (D9.out.after h1); have Z11 := Aside0.mk (Nat.le_trans Z9.out h1.size); clear h1)
            | (go_at_call 20; refine (dkept_at w11 _ g1 (trC l keep kk) ((0 : Int)) HE.out D11.out).mono ?_; rintro e w12 ⟨rfl, rfl⟩)
            | (go_at_call 15; refine Calls.mono (sync_at B w11 g1 _ _ 0 HSC.out D11.out Z11.out HOC.out HRC.out) ?_; rintro e w13 ⟨rfl, h1, h2⟩; have D13 := Aside0.mk h1; have G13 := Aside0.mk h2; have Z13 := Aside0.mk (Nat.le_trans Z11.out h2.size); clear h1 h2)
            | (go_at_call 20; refine (dkept_at w13 _ g1 (trD l keep kk) 0 rfl D13.out).mono ?_; rintro e w14 ⟨rfl, rfl⟩)
            | (go_at_call 14; refine (wakesD_any w13).mono ?_; rintro e w20 ⟨rfl, h1⟩; have G20 := Aside0.mk h1; clear h1))
          go_ret
          refine ⟨rfl, ?_⟩
          rw [← HBB.out]
          exact ((((((HW.out.trans G5.out).trans G8.out).trans G9.out).trans G11.out).trans G13.out)).trans (G20.out.mono Z13.out)
        · by_cases hk2 : (l.length : Int) < keep
          · skip
            have HE := Aside0.mk (show (kk : Int) = (l.length : Int) by omega)
            have hcut := cut_to (P := Try.prog) 22 39 .i64 Try.underlying22 hi39 A l.length c (l.length : Int) (by omega) (by omega) hc
            rw [show ((l.length : Int)).toNat = kk by omega] at hcut
            clear hkq
            go_wp2_with (first
              | (go_at_call 15; refine Calls.mono (sync_at B wr g1 _ _ 7 H7.out HD.out HZ.out HOA.out HRA.out) ?_; rintro e w5 ⟨rfl, h1, h2⟩; have D5 := Aside0.mk h1; have G5 := Aside0.mk h2; have Z5 := Aside0.mk (Nat.le_trans HZ.out h2.size); clear h1 h2)
              | (go_at_call 16; refine Calls.mono (startB_at B w5 g1 l keep kk D5.out Z5.out) ?_; rintro e w8 ⟨⟨v8, rfl⟩, h1, h2⟩; have D8 := Aside0.mk h1; have G8 := Aside0.mk h2; have Z8 := Aside0.mk (Nat.le_trans Z5.out h2.size); clear h1 h2)
              | (go_at_call 17; refine Calls.mono (readC_at B w8 g1 l keep kk D8.out HF.out HC6.out HKL.out) ?_; rintro e w9 ⟨A9, c9, rfl, h0, h1, h2⟩; have C9 := Aside0.mk h0; have L9 := Aside0.mk h1; have G9 := Aside0.mk (h2.mono Z8.out); have D9 := Aside0.mk (D8.out.after h2); have Z9 := Aside0.mk (Nat.le_trans Z8.out h2.size); clear h0 h1 h2)
              | (go_at_call 18; refine (dlife_at w9 _ g1 (trC l keep kk) 1 rfl D9.out).mono ?_; rintro e w10 ⟨rfl, rfl⟩)
              | (go_at_call 19; refine (recs_at w9 A9 c9 kk A c kk (l.take kk) HSM.out (by rw [HTL.out]; have := HKL.out; have := HC6.out; omega) C9.out L9.out (by have := Kd.C_take (Kd.C_below HCC.out (by rw [← HBB.out]; exact (((HW.out.trans G5.out).trans G8.out).trans G9.out))) HKL.out; rw [HTL.out] at this; exact this) (by have := HKL.out; omega)).mono ?_; rintro e w11 ⟨rfl, h1⟩; have G11 := Aside0.mk (h1.mono Z9.out); have D11 := Aside0.mk (D9.out.after h1); have Z11 := Aside0.mk (Nat.le_trans Z9.out h1.size); clear h1)
              | (go_at_call 20; refine (dkept_at w11 _ g1 (trC l keep kk) ((l.length : Int)) HE.out D11.out).mono ?_; rintro e w12 ⟨rfl, rfl⟩)
              | (go_at_call 15; refine Calls.mono (sync_at B w11 g1 _ _ 0 HSC.out D11.out Z11.out HOC.out HRC.out) ?_; rintro e w13 ⟨rfl, h1, h2⟩; have D13 := Aside0.mk h1; have G13 := Aside0.mk h2; have Z13 := Aside0.mk (Nat.le_trans Z11.out h2.size); clear h1 h2)
              | (go_at_call 20; refine (dkept_at w13 _ g1 (trD l keep kk) 0 rfl D13.out).mono ?_; rintro e w14 ⟨rfl, rfl⟩)
              | (go_at_call 14; refine (wakesD_any w13).mono ?_; rintro e w20 ⟨rfl, h1⟩; have G20 := Aside0.mk h1; clear h1))
            go_ret
            refine ⟨rfl, ?_⟩
            rw [← HBB.out]
            exact ((((((HW.out.trans G5.out).trans G8.out).trans G9.out).trans G11.out).trans G13.out)).trans (G20.out.mono Z13.out)
          · skip
            have HE := Aside0.mk (show (kk : Int) = keep by omega)
            have hcut := cut_to (P := Try.prog) 22 39 .i64 Try.underlying22 hi39 A l.length c keep (by omega) (by omega) hc
            rw [show (keep).toNat = kk by omega] at hcut
            clear hkq
            go_wp2_with (first
              | (go_at_call 15; refine Calls.mono (sync_at B wr g1 _ _ 7 H7.out HD.out HZ.out HOA.out HRA.out) ?_; rintro e w5 ⟨rfl, h1, h2⟩; have D5 := Aside0.mk h1; have G5 := Aside0.mk h2; have Z5 := Aside0.mk (Nat.le_trans HZ.out h2.size); clear h1 h2)
              | (go_at_call 16; refine Calls.mono (startB_at B w5 g1 l keep kk D5.out Z5.out) ?_; rintro e w8 ⟨⟨v8, rfl⟩, h1, h2⟩; have D8 := Aside0.mk h1; have G8 := Aside0.mk h2; have Z8 := Aside0.mk (Nat.le_trans Z5.out h2.size); clear h1 h2)
              | (go_at_call 17; refine Calls.mono (readC_at B w8 g1 l keep kk D8.out HF.out HC6.out HKL.out) ?_; rintro e w9 ⟨A9, c9, rfl, h0, h1, h2⟩; have C9 := Aside0.mk h0; have L9 := Aside0.mk h1; have G9 := Aside0.mk (h2.mono Z8.out); have D9 := Aside0.mk (D8.out.after h2); have Z9 := Aside0.mk (Nat.le_trans Z8.out h2.size); clear h0 h1 h2)
              | (go_at_call 18; refine (dlife_at w9 _ g1 (trC l keep kk) 1 rfl D9.out).mono ?_; rintro e w10 ⟨rfl, rfl⟩)
              | (go_at_call 19; refine (recs_at w9 A9 c9 kk A c kk (l.take kk) HSM.out (by rw [HTL.out]; have := HKL.out; have := HC6.out; omega) C9.out L9.out (by have := Kd.C_take (Kd.C_below HCC.out (by rw [← HBB.out]; exact (((HW.out.trans G5.out).trans G8.out).trans G9.out))) HKL.out; rw [HTL.out] at this; exact this) (by have := HKL.out; omega)).mono ?_; rintro e w11 ⟨rfl, h1⟩; have G11 := Aside0.mk (h1.mono Z9.out); have D11 := Aside0.mk (D9.out.after h1); have Z11 := Aside0.mk (Nat.le_trans Z9.out h1.size); clear h1)
              | (go_at_call 20; refine (dkept_at w11 _ g1 (trC l keep kk) (keep) HE.out D11.out).mono ?_; rintro e w12 ⟨rfl, rfl⟩)
              | (go_at_call 15; refine Calls.mono (sync_at B w11 g1 _ _ 0 HSC.out D11.out Z11.out HOC.out HRC.out) ?_; rintro e w13 ⟨rfl, h1, h2⟩; have D13 := Aside0.mk h1; have G13 := Aside0.mk h2; have Z13 := Aside0.mk (Nat.le_trans Z11.out h2.size); clear h1 h2)
              | (go_at_call 20; refine (dkept_at w13 _ g1 (trD l keep kk) 0 rfl D13.out).mono ?_; rintro e w14 ⟨rfl, rfl⟩)
              | (go_at_call 14; refine (wakesD_any w13).mono ?_; rintro e w20 ⟨rfl, h1⟩; have G20 := Aside0.mk h1; clear h1))
            go_ret
            refine ⟨rfl, ?_⟩
            rw [← HBB.out]
            exact ((((((HW.out.trans G5.out).trans G8.out).trans G9.out).trans G11.out).trans G13.out)).trans (G20.out.mono Z13.out)
      · have hlm : ¬ (l.length : Int) < (m : Int) := by omega
        have hlm1 : ((m : Int) == (l.length : Int) + 1) = false := by simp; omega
        have hkq := HKK.out
        by_cases hk0 : keep < 0
        · have hk1 : ¬ (m : Int) < 0 := by omega
          have HE := Aside0.mk (show (kk : Int) = (0 : Int) by omega)
          have hcut := cut_to (P := Try.prog) 22 39 .i64 Try.underlying22 hi39 A l.length c (0 : Int) (by omega) (by omega) hc
          rw [show ((0 : Int)).toNat = kk by omega] at hcut
          clear hkq
          obtain ⟨w5, rfl⟩ : ∃ w5, w5 = wr := ⟨_, rfl⟩
          have D5 := HD
          have Z5 := HZ
          have G5 := Aside0.mk (Below.refl B w5)
          go_wp2_with (first
            | (go_at_call 16; refine Calls.mono (startB_at B w5 g1 l keep kk D5.out Z5.out) ?_; rintro e w8 ⟨⟨v8, rfl⟩, h1, h2⟩; have D8 := Aside0.mk h1; have G8 := Aside0.mk h2; have Z8 := Aside0.mk (Nat.le_trans Z5.out h2.size); clear h1 h2)
            | (go_at_call 17; refine Calls.mono (readC_at B w8 g1 l keep kk D8.out HF.out HC6.out HKL.out) ?_; rintro e w9 ⟨A9, c9, rfl, h0, h1, h2⟩; have C9 := Aside0.mk h0; have L9 := Aside0.mk h1; have G9 := Aside0.mk (h2.mono Z8.out); have D9 := Aside0.mk (D8.out.after h2); have Z9 := Aside0.mk (Nat.le_trans Z8.out h2.size); clear h0 h1 h2)
            | (go_at_call 18; refine (dlife_at w9 _ g1 (trC l keep kk) 1 rfl D9.out).mono ?_; rintro e w10 ⟨rfl, rfl⟩)
            | (go_at_call 19; refine (recs_at w9 A9 c9 kk A c kk (l.take kk) HSM.out (by rw [HTL.out]; have := HKL.out; have := HC6.out; omega) C9.out L9.out (by have := Kd.C_take (Kd.C_below HCC.out (by rw [← HBB.out]; exact (((HW.out.trans G5.out).trans G8.out).trans G9.out))) HKL.out; rw [HTL.out] at this; exact this) (by have := HKL.out; omega)).mono ?_; rintro e w11 ⟨rfl, h1⟩; have G11 := Aside0.mk (h1.mono Z9.out); have D11 := Aside0.mk (D9.out.after h1); have Z11 := Aside0.mk (Nat.le_trans Z9.out h1.size); clear h1)
            | (go_at_call 20; refine (dkept_at w11 _ g1 (trC l keep kk) ((0 : Int)) HE.out D11.out).mono ?_; rintro e w12 ⟨rfl, rfl⟩)
            | (go_at_call 15; refine Calls.mono (sync_at B w11 g1 _ _ 0 HSC.out D11.out Z11.out HOC.out HRC.out) ?_; rintro e w13 ⟨rfl, h1, h2⟩; have D13 := Aside0.mk h1; have G13 := Aside0.mk h2; have Z13 := Aside0.mk (Nat.le_trans Z11.out h2.size); clear h1 h2)
            | (go_at_call 20; refine (dkept_at w13 _ g1 (trD l keep kk) 0 rfl D13.out).mono ?_; rintro e w14 ⟨rfl, rfl⟩)
            | (go_at_call 14; refine (wakesD_any w13).mono ?_; rintro e w20 ⟨rfl, h1⟩; have G20 := Aside0.mk h1; clear h1))
          go_ret
          refine ⟨rfl, ?_⟩
          rw [← HBB.out]
          exact ((((((HW.out.trans G5.out).trans G8.out).trans G9.out).trans G11.out).trans G13.out)).trans (G20.out.mono Z13.out)
        · by_cases hk2 : (m : Int) < keep
          · skip
            have HE := Aside0.mk (show (kk : Int) = (m : Int) by omega)
            have hcut := cut_to (P := Try.prog) 22 39 .i64 Try.underlying22 hi39 A l.length c (m : Int) (by omega) (by omega) hc
            rw [show ((m : Int)).toNat = kk by omega] at hcut
            clear hkq
            obtain ⟨w5, rfl⟩ : ∃ w5, w5 = wr := ⟨_, rfl⟩
            have D5 := HD
            have Z5 := HZ
            have G5 := Aside0.mk (Below.refl B w5)
            go_wp2_with (first
              | (go_at_call 16; refine Calls.mono (startB_at B w5 g1 l keep kk D5.out Z5.out) ?_; rintro e w8 ⟨⟨v8, rfl⟩, h1, h2⟩; have D8 := Aside0.mk h1; have G8 := Aside0.mk h2; have Z8 := Aside0.mk (Nat.le_trans Z5.out h2.size); clear h1 h2)
              | (go_at_call 17; refine Calls.mono (readC_at B w8 g1 l keep kk D8.out HF.out HC6.out HKL.out) ?_; rintro e w9 ⟨A9, c9, rfl, h0, h1, h2⟩; have C9 := Aside0.mk h0; have L9 := Aside0.mk h1; have G9 := Aside0.mk (h2.mono Z8.out); have D9 := Aside0.mk (D8.out.after h2); have Z9 := Aside0.mk (Nat.le_trans Z8.out h2.size); clear h0 h1 h2)
              | (go_at_call 18; refine (dlife_at w9 _ g1 (trC l keep kk) 1 rfl D9.out).mono ?_; rintro e w10 ⟨rfl, rfl⟩)
              | (go_at_call 19; refine (recs_at w9 A9 c9 kk A c kk (l.take kk) HSM.out (by rw [HTL.out]; have := HKL.out; have := HC6.out; omega) C9.out L9.out (by have := Kd.C_take (Kd.C_below HCC.out (by rw [← HBB.out]; exact (((HW.out.trans G5.out).trans G8.out).trans G9.out))) HKL.out; rw [HTL.out] at this; exact this) (by have := HKL.out; omega)).mono ?_; rintro e w11 ⟨rfl, h1⟩; have G11 := Aside0.mk (h1.mono Z9.out); have D11 := Aside0.mk (D9.out.after h1); have Z11 := Aside0.mk (Nat.le_trans Z9.out h1.size); clear h1)
              | (go_at_call 20; refine (dkept_at w11 _ g1 (trC l keep kk) ((m : Int)) HE.out D11.out).mono ?_; rintro e w12 ⟨rfl, rfl⟩)
              | (go_at_call 15; refine Calls.mono (sync_at B w11 g1 _ _ 0 HSC.out D11.out Z11.out HOC.out HRC.out) ?_; rintro e w13 ⟨rfl, h1, h2⟩; have D13 := Aside0.mk h1; have G13 := Aside0.mk h2; have Z13 := Aside0.mk (Nat.le_trans Z11.out h2.size); clear h1 h2)
              | (go_at_call 20; refine (dkept_at w13 _ g1 (trD l keep kk) 0 rfl D13.out).mono ?_; rintro e w14 ⟨rfl, rfl⟩)
              | (go_at_call 14; refine (wakesD_any w13).mono ?_; rintro e w20 ⟨rfl, h1⟩; have G20 := Aside0.mk h1; clear h1))
            go_ret
            refine ⟨rfl, ?_⟩
            rw [← HBB.out]
            exact ((((((HW.out.trans G5.out).trans G8.out).trans G9.out).trans G11.out).trans G13.out)).trans (G20.out.mono Z13.out)
          · skip
            have HE := Aside0.mk (show (kk : Int) = keep by omega)
            have hcut := cut_to (P := Try.prog) 22 39 .i64 Try.underlying22 hi39 A l.length c keep (by omega) (by omega) hc
            rw [show (keep).toNat = kk by omega] at hcut
            clear hkq
            obtain ⟨w5, rfl⟩ : ∃ w5, w5 = wr := ⟨_, rfl⟩
            have D5 := HD
            have Z5 := HZ
            have G5 := Aside0.mk (Below.refl B w5)
            go_wp2_with (first
              | (go_at_call 16; refine Calls.mono (startB_at B w5 g1 l keep kk D5.out Z5.out) ?_; rintro e w8 ⟨⟨v8, rfl⟩, h1, h2⟩; have D8 := Aside0.mk h1; have G8 := Aside0.mk h2; have Z8 := Aside0.mk (Nat.le_trans Z5.out h2.size); clear h1 h2)
              | (go_at_call 17; refine Calls.mono (readC_at B w8 g1 l keep kk D8.out HF.out HC6.out HKL.out) ?_; rintro e w9 ⟨A9, c9, rfl, h0, h1, h2⟩; have C9 := Aside0.mk h0; have L9 := Aside0.mk h1; have G9 := Aside0.mk (h2.mono Z8.out); have D9 := Aside0.mk (D8.out.after h2); have Z9 := Aside0.mk (Nat.le_trans Z8.out h2.size); clear h0 h1 h2)
              | (go_at_call 18; refine (dlife_at w9 _ g1 (trC l keep kk) 1 rfl D9.out).mono ?_; rintro e w10 ⟨rfl, rfl⟩)
              | (go_at_call 19; refine (recs_at w9 A9 c9 kk A c kk (l.take kk) HSM.out (by rw [HTL.out]; have := HKL.out; have := HC6.out; omega) C9.out L9.out (by have := Kd.C_take (Kd.C_below HCC.out (by rw [← HBB.out]; exact (((HW.out.trans G5.out).trans G8.out).trans G9.out))) HKL.out; rw [HTL.out] at this; exact this) (by have := HKL.out; omega)).mono ?_; rintro e w11 ⟨rfl, h1⟩; have G11 := Aside0.mk (h1.mono Z9.out); have D11 := Aside0.mk (D9.out.after h1); have Z11 := Aside0.mk (Nat.le_trans Z9.out h1.size); clear h1)
              | (go_at_call 20; refine (dkept_at w11 _ g1 (trC l keep kk) (keep) HE.out D11.out).mono ?_; rintro e w12 ⟨rfl, rfl⟩)
              | (go_at_call 15; refine Calls.mono (sync_at B w11 g1 _ _ 0 HSC.out D11.out Z11.out HOC.out HRC.out) ?_; rintro e w13 ⟨rfl, h1, h2⟩; have D13 := Aside0.mk h1; have G13 := Aside0.mk h2; have Z13 := Aside0.mk (Nat.le_trans Z11.out h2.size); clear h1 h2)
              | (go_at_call 20; refine (dkept_at w13 _ g1 (trD l keep kk) 0 rfl D13.out).mono ?_; rintro e w14 ⟨rfl, rfl⟩)
              | (go_at_call 14; refine (wakesD_any w13).mono ?_; rintro e w20 ⟨rfl, h1⟩; have G20 := Aside0.mk h1; clear h1))
            go_ret
            refine ⟨rfl, ?_⟩
            rw [← HBB.out]
            exact ((((((HW.out.trans G5.out).trans G8.out).trans G9.out).trans G11.out).trans G13.out)).trans (G20.out.mono Z13.out)
theorem trips_any (l : List S39) (A : Option Addr) (c : Nat) (n keep : Int) (hG : OkL Ok39 l) (hc : l.length ≤ c) {w : World} (hC : k39.C w A l.length l) (_ : (Lit.int .i64 n).wf = true) (_ : (Lit.int .i64 keep).wf = true) : Calls Try.prog 3 #[.slice A l.length c, .int .i64 n, .int .i64 keep] w fun e w' => e = .returned (.bool true) ∧ Below w.heap.size w w' := trips_any0 l A c n keep hG hc w hC
end Go.Proofs.Ytbkfdejcmimhgaa
