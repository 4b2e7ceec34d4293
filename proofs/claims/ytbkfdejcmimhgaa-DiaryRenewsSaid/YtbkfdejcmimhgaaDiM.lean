/- The walk of DiaryTwice. -/
import Derived.Test.YtbkfdejcmimhgaaProg
import Derived.WalkKit
import Derived.WalkLawsBesides
import Derived.Outline
import Derived.LoopTactic
import Derived.Lib.Hide
import Derived.Deep.QuietTactic
import Derived.BigQuiet
import Derived.Deep.LoopGhost
import Derived.Deep.DeepCutAuto
import Derived.Deep.CutBlock
import Derived.Deep.RegionHeld3
import Derived.Deep.RegionWith
import Derived.Deep.WholeRow
import Derived.Laws.Rows
import Derived.Laws.Tables
import Derived.Laws.ResultCell
import Derived.StillTailTactics
import Derived.Deep.DeepMust
import Derived.IntWalk
import Derived.KernelRfl
import Derived.Test.YtbkfdejcmimhgaaWWords
import Derived.Test.YtbkfdejcmimhgaaWLast
import Derived.Test.YtbkfdejcmimhgaaWMore
import Derived.RegionTactic
import Derived.Test.YtbkfdejcmimhgaaDiL
namespace Go.Proofs.Ytbkfdejcmimhgaa
open Go.RowKit Go.Proofs.YtbkfdejcmimhgaaW.PrintWords Go.Proofs.Ytbkfdejcmimhgaa.PDiaryExact
set_option linter.unusedVariables false
set_option linter.unusedSimpArgs false
/-- Where DiaryTwice stands behind i records. -/
structure Tw (l : List S39) (keep : Int) (s : DSt) (i : Nat) (kq : Int) : Prop where
  lim : s.limit = 131072
  off : s.off = false
  life : s.life = i
  armed : s.armed = 0
  kept : s.kept = kq
  safe : s.safe = s.recs.length
  len : s.recs.length = if 0 < keep then i else 0
  fine : Fine s.recs
  kq0 : 0 ≤ kq
  kq1 : kq ≤ i
theorem Tw.ok {l : List S39} {keep : Int} {s : DSt} {i : Nat} {kq : Int} (h : Tw l keep s i kq) (hi : i ≤ 60) : s.Ok := by
  have h1 := h.life; have h2 := h.kept; have h3 := h.safe; have h4 := h.kq0; have h5 := h.kq1
  have h6 : s.recs.length ≤ i := by rw [h.len]; split <;> omega
  unfold DSt.Ok
  omega
theorem Tw.ar {l : List S39} {keep : Int} {s : DSt} {i : Nat} {kq : Int} (h : Tw l keep s i kq) : s.Armed := by
  have := h.armed
  unfold DSt.Armed; omega
theorem put_full (s : DSt) (x : S39) (ho : s.off = false) (h : s.limit - roomsOf s.recs < room x) : s.put x = (8, s) := by
  unfold DSt.put
  rw [if_neg (by rw [ho]; decide), if_pos h]
theorem put_fits (s : DSt) (x : S39) (ho : s.off = false) (ha : s.armed = 0) (h : ¬ s.limit - roomsOf s.recs < room x) : s.put x = (0, { s with recs := s.recs ++ [x] }) := by
  unfold DSt.put
  rw [if_neg (by rw [ho]; decide), if_neg h]
  have h1 : (s.add x).hit = false := by unfold DSt.hit DSt.add; simp [ha]
  have h2 : (s.add x).tick = s.add x := by unfold DSt.tick DSt.add; simp [ha]
  rw [if_neg (by rw [h1]; decide), h2]
  rfl
theorem Fine.append {l k : List S39} (h1 : Fine l) (h2 : Fine k) : Fine (l ++ k) := fun x hx => by
  rcases List.mem_append.1 hx with h | h
  · exact h1 x h
  · exact h2 x h
theorem Fine.take {l : List S39} (h : Fine l) (n : Nat) : Fine (l.take n) := fun x hx => h x (List.mem_of_mem_take hx)
theorem Fine.one {x : S39} (h1 : Lite x) (h2 : x.f1.f4.size ≤ 1000000) : Fine [x] := fun y hy => by
  obtain rfl : y = x := by simpa using hy
  exact ⟨h1, h2⟩
theorem DSt.crash_twice (s : DSt) (k : Int) : (s.crash k).crash k = s.crash k := by
  have h : (s.crash k).off = true := by
    unfold DSt.crash
    by_cases h : s.off = true
    · rw [if_pos h]; exact h
    · rw [if_neg h]
  generalize s.crash k = t at h ⊢
  unfold DSt.crash
  rw [if_pos h]
def DSt.on (s : DSt) : DSt := { s with off := false }
theorem starton_at (B : Nat) (W : World) (g : Nat) (s : DSt) (h : Db B W g s) (hB : B ≤ W.heap.size) : Calls Try.prog 16 #[.pointer (some ⟨g, 0, none⟩)] W fun e w' => (∃ v, e = .returned v) ∧ Db B w' g s.on ∧ Below B W w' := start_at B W g s h hB
theorem Tw.step {l : List S39} {keep : Int} {s : DSt} {i : Nat} {kq : Int} (h : Tw l keep s i kq) (x : S39) (hx : Fine [x]) : s.put x = (8, s) ∨ ∃ s1, s.put x = (0, s1) ∧ s1.Armed ∧ (i < 60 → s1.Ok) ∧ (i < 60 → (s1.crash keep).Ok) ∧ (s1.crash keep).crash keep = s1.crash keep ∧ Tw l keep (s1.crash keep).on (i + 1) (if 0 < keep then kq + 1 else kq) := by
  by_cases hr : s.limit - roomsOf s.recs < room x
  · exact .inl (put_full s x h.off hr)
  · refine .inr ⟨_, put_fits s x h.off h.armed hr, by have := h.ar; exact this, ?_, ?_, DSt.crash_twice _ _, ?_⟩
    · intro hi
      have h1 := h.ok (by omega)
      unfold DSt.Ok at h1 ⊢
      simp only [List.length_append, List.length_singleton]
      push_cast
      have := h.len
      split at this <;> omega
    · intro hi
      have h1 := h.life; have h2 := h.kept; have h3 := h.safe; have h4 := h.kq0; have h5 := h.kq1; have h6 := h.len
      have hoff : ¬ s.off = true := by rw [h.off]; decide
      unfold DSt.crash DSt.Ok DSt.stay
      simp only [if_neg hoff, List.length_take, List.length_append, List.length_singleton]
      push_cast
      split at h6 <;> omega
    · have h1 := h.life; have h2 := h.kept; have h3 := h.safe; have h4 := h.kq0; have h5 := h.kq1; have h6 := h.len
      have hoff : ¬ s.off = true := by rw [h.off]; decide
      have hst : DSt.stay { s with recs := s.recs ++ [x] } keep = if 0 < keep then 1 else 0 := by
        unfold DSt.stay
        simp only [List.length_append, List.length_singleton]
        push_cast
        split <;> omega
      have e : DSt.crash { s with recs := s.recs ++ [x] } keep = { s with recs := (s.recs ++ [x]).take (s.safe + (if 0 < keep then 1 else 0)).toNat, kept := s.kept + (if 0 < keep then 1 else 0), off := true, safe := s.safe + (if 0 < keep then 1 else 0), armed := 0, life := s.life + 1 } := by
        conv => lhs; unfold DSt.crash
        rw [if_neg hoff, hst]
      rw [e]
      unfold DSt.on
      have hfa := (h.fine.append hx)
      refine ⟨h.lim, rfl, ?_, rfl, ?_, ?_, ?_, hfa.take _, ?_, ?_⟩
      · show s.life + 1 = ((i + 1 : Nat) : Int); push_cast; omega
      · show s.kept + _ = _; split <;> omega
      · simp only [List.length_take, List.length_append, List.length_singleton]
        split at h6 <;> split <;> omega
      · simp only [List.length_take, List.length_append, List.length_singleton]
        split at h6 <;> split <;> omega
      · split <;> omega
      · push_cast; split <;> omega
theorem Tw.sync {l : List S39} {keep : Int} {s : DSt} {i : Nat} {kq : Int} (h : Tw l keep s i kq) : ∃ s2, s.sync = (0, s2) ∧ Tw l keep s2 i 0 := by
  have h1 : s.hit = false := by unfold DSt.hit; simp [h.armed]
  have h2 : s.tick = s := by unfold DSt.tick; simp [h.armed]
  refine ⟨{ s.tick with safe := s.recs.length, kept := 0 }, ?_, ?_⟩
  · unfold DSt.sync
    rw [if_neg (by rw [h.off]; decide), if_neg (by rw [h1]; decide)]
  · rw [h2]
    exact ⟨h.lim, h.off, h.life, h.armed, rfl, rfl, h.len, h.fine, Int.le_refl _, by omega⟩
theorem dkept_at (W : World) (S : Nat → Prop) (g : Nat) (s : DSt) (n : Int) (hn : s.kept = n) (h : Dy W S g s) : Calls Try.prog 20 #[.pointer (some ⟨g, 0, none⟩)] W fun e w' => e = .returned (.int .i64 n) ∧ W = w' := by
  subst hn
  exact dkept W S g s h
theorem dlen_at (W : World) (S : Nat → Prop) (g : Nat) (s : DSt) (n : Int) (hn : (s.recs.length : Int) = n) (h : Dy W S g s) : Calls Try.prog 23 #[.pointer (some ⟨g, 0, none⟩)] W fun e w' => e = .returned (.int .i64 n) ∧ W = w' := by
  subst hn
  exact dlen W S g s h
theorem dsafe_at (W : World) (S : Nat → Prop) (g : Nat) (s : DSt) (n : Int) (hn : s.safe = n) (h : Dy W S g s) : Calls Try.prog 25 #[.pointer (some ⟨g, 0, none⟩)] W fun e w' => e = .returned (.int .i64 n) ∧ W = w' := by
  subst hn
  exact dsafe W S g s h
set_option maxRecDepth 100000 in
set_option maxHeartbeats 8000000 in
theorem twice_any0 (l : List S39) (A : Option Addr) (c : Nat) (keep n : Int) (hG : OkL Ok39 l) (hc : l.length ≤ c) (w : World) (hC : k39.C w A l.length l) : Calls Try.prog 5 #[.slice A l.length c, .int .i64 keep, .int .i64 n] w fun e w' => e = .returned (.bool true) ∧ Below w.heap.size w w' := by
  obtain ⟨b, hb, hs⟩ := h18 l hG.2
  have HB := Aside0.mk hb
  have HCC := Aside0.mk hC
  clear hb hC
  cases b with
  | true =>
    clear hs
    go_enter Try.func5, Try.ntmps5
    go_wp2_with (first | (go_at_call 10; refine (heavy_any true HCC.out hc HB.out).mono ?_; rintro e w3 ⟨rfl, h1⟩; have G3 := Aside0.mk h1; clear h1))
    go_ret
    exact ⟨rfl, G3.out⟩
  | false =>
    have HS := Aside0.mk (hs rfl)
    clear hs
    obtain ⟨B, hB⟩ : ∃ B, B = w.heap.size := ⟨_, rfl⟩
    have HBB := Aside0.mk hB
    clear hB
    go_enter Try.func5, Try.ntmps5
    go_wp2_with (first | (go_at_call 10; refine (heavy_any false HCC.out hc HB.out).mono ?_; rintro e w3 ⟨rfl, h1⟩; rw [← HBB.out] at h1; have G3 := Aside0.mk h1; clear h1) | (go_at_call 11; refine (new_at B 131072 (by decide) (by decide) w3 (by have := G3.out.size; have := HBB.out; omega)).mono ?_; rintro e w4 ⟨rfl, h1, h2⟩; obtain ⟨g1, hg1⟩ : ∃ g1, g1 = w3.heap.size := ⟨_, rfl⟩; have HG1 := Aside0.mk hg1; rw [← hg1] at h1 h2 ⊢; have D4 := Aside0.mk h1; have G4 := Aside0.mk h2; clear h1 h2 hg1))
    obtain ⟨nn, hnn⟩ : ∃ nn : Int, wrap64 ((IntKind.u64.wrap n).tmod 4) = nn := ⟨_, rfl⟩
    rw [hnn]
    clear hnn
    go_loopg [9, 10] l.length (fun g v9 v10 wr => ∃ (i : Nat) (s : DSt) (kq : Int), i ≤ l.length ∧ g + i = l.length ∧ v10 = .int .i64 i ∧ v9 = .int .i64 kq ∧ Aside0 (Tw l keep s i kq) ∧ Aside0 (Db B wr g1 s) ∧ Aside0 (Below B w wr))
    case atStart =>
      refine ⟨0, DSt.new 131072, 0, by omega, by omega, rfl, rfl, ⟨⟨rfl, rfl, rfl, rfl, rfl, rfl, by split <;> rfl, fine_new _, by omega, by omega⟩⟩, D4, ⟨?_⟩⟩
      exact G3.out.trans (G4.out.mono (by have := G3.out.size; have := HG1.out; have := HBB.out; omega))
    case round =>
    obtain ⟨i, s, kq, hi, hg, rfl, rfl, HT, HD, HW⟩ := hrel
    have h60 : l.length ≤ 60 := HS.out.1
    by_cases hlt : i < l.length
    · have hlt' : (i : Int) < (l.length : Int) := by omega
      obtain ⟨ad, A4, c4, A5, c5, A10, c10, A14, c14, rfl, q0, q1, q2, q3, q4, q5, q6, q7, q8, q9, q10, q11, q12, q13, q14, l4, g4, l5, g5, l10, g10, l14, g14⟩ := at_T39 (Kd.C_below HCC.out (by rw [← HBB.out]; exact HW.out)) i (by omega) (by omega)
      have ex : rd_T39 l i = l.getD i z39 := rfl
      have hxs : Small (rd_T39 l i) := by rw [ex]; exact HS.out.2 _ (by simp [List.getD_eq_getElem?_getD, hlt])
      clear ex
      simp only [Int.toNat_natCast] at q0 q1 q2 q3 q4 q5 q6 q7 q8 q9 q10 q11 q12 q13 q14
      generalize rd_T39 l i = x at *
      have HXS := Aside0.mk hxs
      have hKx := k39_mk wr x l4 g4 l5 g5 l10 g10 l14 g14
      have HKX := Aside0.mk hKx
      clear hxs hKx g4 g5 g10 g14 l4 l5 l10 l14
      rcases HT.out.step x (Fine.one HXS.out.lite HXS.out.helo) with h8 | ⟨s1, h0, ha1, ho1, hc1, hcc1, ht1⟩
      · have H8 := Aside0.mk h8
        clear h8
        have HZ := Aside0.mk (show B ≤ wr.heap.size from Nat.le_trans (Nat.le_of_eq HBB.out) HW.out.size)
        have HOKS := Aside0.mk (HT.out.ok (by omega))
        have HLN := Aside0.mk (show s.recs.length < 1000000 by have := HT.out.len; split at this <;> omega)
        have HFS := Aside0.mk HT.out.fine
        have HAR := Aside0.mk HT.out.ar
        have HL0 := Aside0.mk (show 0 ≤ s.limit by rw [HT.out.lim]; decide)
        have HL1 := Aside0.mk (show s.limit ≤ 1000000 by rw [HT.out.lim]; decide)
        go_wp2_with (first | (go_at_call 13; with_reducible refine Calls.mono (put_at B wr g1 s s x (recs15 x (.slice A4 x.f1.f1.length c4) (.slice A5 x.f1.f2.length c5) (.slice A10 x.f3.length c10) (.slice A14 x.f7.length c14)) 8 H8.out HD.out HZ.out HKX.out HXS.out.lite HXS.out.helo HOKS.out HLN.out HFS.out HAR.out HL0.out HL1.out) ?_; rintro e w5 ⟨rfl, h1, h2⟩; have D5 := Aside0.mk h1; have G5 := Aside0.mk h2; have Z5 := Aside0.mk (Nat.le_trans HZ.out h2.size); clear h1 h2 q0 q1 q2 q3 q4 q5 q6 q7 q8 q9 q10 q11 q12 q13 q14) | (go_at_call 14; refine (wakesD_any w5).mono ?_; rintro e w20 ⟨rfl, h1⟩; have G20 := Aside0.mk h1; clear h1))
        go_ret
        refine ⟨rfl, ?_⟩
        rw [← HBB.out]
        exact (HW.out.trans G5.out).trans (G20.out.mono Z5.out)
      · have H0 := Aside0.mk h0
        have HO1 := Aside0.mk (ho1 (by omega))
        have HC1 := Aside0.mk (hc1 (by omega))
        have HCC1 := Aside0.mk hcc1
        have HZ := Aside0.mk (show B ≤ wr.heap.size from Nat.le_trans (Nat.le_of_eq HBB.out) HW.out.size)
        have HOKS := Aside0.mk (HT.out.ok (by omega))
        have HLN := Aside0.mk (show s.recs.length < 1000000 by have := HT.out.len; split at this <;> omega)
        have HFS := Aside0.mk HT.out.fine
        have HAR := Aside0.mk HT.out.ar
        have HL0 := Aside0.mk (show 0 ≤ s.limit by rw [HT.out.lim]; decide)
        have HL1 := Aside0.mk (show s.limit ≤ 1000000 by rw [HT.out.lim]; decide)
        have HI1 := Aside0.mk (show i + 1 ≤ 60 by omega)
        have hk0 := HT.out.kq0
        have hk1 := HT.out.kq1
        clear h0 ho1 hc1 hcc1 ha1
        by_cases hkp : 0 < keep
        · rw [if_pos hkp] at ht1
          have HT1 := Aside0.mk ht1
          clear ht1
          by_cases hq0 : ((i : Int) % 4 == nn) = true
          · have hq : ((i : Int) % 4 == nn) = true := by exact hq0
            clear hq0
            obtain ⟨s6, hsy, ht2⟩ := HT1.out.sync
            have HSY := Aside0.mk hsy
            have HT2 := Aside0.mk ht2
            have hlf : s6.life = (i : Int) + 1 := by have := ht2.life; push_cast at this; exact this
            have HLF := Aside0.mk hlf
            clear hsy ht2 hlf
            go_wp2_with (first
              | (go_at_call 13; with_reducible refine Calls.mono (put_at B wr g1 s s1 x (recs15 x (.slice A4 x.f1.f1.length c4) (.slice A5 x.f1.f2.length c5) (.slice A10 x.f3.length c10) (.slice A14 x.f7.length c14)) 0 H0.out HD.out HZ.out HKX.out HXS.out.lite HXS.out.helo HOKS.out HLN.out HFS.out HAR.out HL0.out HL1.out) ?_; rintro e w5 ⟨rfl, h1, h2⟩; have D5 := Aside0.mk h1; have G5 := Aside0.mk h2; have Z5 := Aside0.mk (Nat.le_trans HZ.out h2.size); clear h1 h2 q0 q1 q2 q3 q4 q5 q6 q7 q8 q9 q10 q11 q12 q13 q14)
              | (go_at_call 22; refine Calls.mono (crash_at B w5 g1 s1 (s1.crash keep) keep rfl D5.out Z5.out HO1.out) ?_; rintro e w6 ⟨⟨v6, rfl⟩, h1, h2⟩; have D6 := Aside0.mk h1; have G6 := Aside0.mk h2; have Z6 := Aside0.mk (Nat.le_trans Z5.out h2.size); clear h1 h2)
              | (go_at_call 22; refine Calls.mono (crash_at B w6 g1 (s1.crash keep) (s1.crash keep) keep HCC1.out D6.out Z6.out HC1.out) ?_; rintro e w7 ⟨⟨v7, rfl⟩, h1, h2⟩; have D7 := Aside0.mk h1; have G7 := Aside0.mk h2; have Z7 := Aside0.mk (Nat.le_trans Z6.out h2.size); clear h1 h2)
              | (go_at_call 16; refine Calls.mono (starton_at B w7 g1 (s1.crash keep) D7.out Z7.out) ?_; rintro e w8 ⟨⟨v8, rfl⟩, h1, h2⟩; have D8 := Aside0.mk h1; have G8 := Aside0.mk h2; have Z8 := Aside0.mk (Nat.le_trans Z7.out h2.size); clear h1 h2)
              | (go_at_call 15; refine Calls.mono (sync_at B w8 g1 _ s6 0 HSY.out D8.out Z8.out (HT1.out.ok HI1.out) HT1.out.ar) ?_; rintro e w9 ⟨rfl, h1, h2⟩; have D9 := Aside0.mk h1; have G9 := Aside0.mk h2; have Z9 := Aside0.mk (Nat.le_trans Z8.out h2.size); clear h1 h2)
              | (go_at_call 18; refine (dlife_at w9 _ g1 _ ((i : Int) + 1) HLF.out D9.out).mono ?_; rintro e w10 ⟨rfl, rfl⟩)
              | (go_at_call 20; refine (dkept_at w9 _ g1 _ 0 HT2.out.kept D9.out).mono ?_; rintro e w10 ⟨rfl, rfl⟩)
              | (go_at_call 24; refine (doff_at w9 _ g1 _ false HT2.out.off D9.out).mono ?_; rintro e w10 ⟨rfl, rfl⟩))
            go_roundg (gk - 1)
            case measure => omega
            case rel =>
              refine ⟨i + 1, _, 0, by omega, by omega, by go_num, by first | rfl | go_num, HT2, D9, ⟨?_⟩⟩
              have b8 := (((HW.out.trans G5.out).trans G6.out).trans G7.out).trans G8.out
              have b9 := b8.trans G9.out
              exact b9
          · have hq : ((i : Int) % 4 == nn) = false := by simpa using hq0
            clear hq0
            have hlf : ((s1.crash keep).on).life = (i : Int) + 1 := by have := HT1.out.life; push_cast at this; exact this
            have HLF := Aside0.mk hlf
            clear hlf
            go_wp2_with (first
              | (go_at_call 13; with_reducible refine Calls.mono (put_at B wr g1 s s1 x (recs15 x (.slice A4 x.f1.f1.length c4) (.slice A5 x.f1.f2.length c5) (.slice A10 x.f3.length c10) (.slice A14 x.f7.length c14)) 0 H0.out HD.out HZ.out HKX.out HXS.out.lite HXS.out.helo HOKS.out HLN.out HFS.out HAR.out HL0.out HL1.out) ?_; rintro e w5 ⟨rfl, h1, h2⟩; have D5 := Aside0.mk h1; have G5 := Aside0.mk h2; have Z5 := Aside0.mk (Nat.le_trans HZ.out h2.size); clear h1 h2 q0 q1 q2 q3 q4 q5 q6 q7 q8 q9 q10 q11 q12 q13 q14)
              | (go_at_call 22; refine Calls.mono (crash_at B w5 g1 s1 (s1.crash keep) keep rfl D5.out Z5.out HO1.out) ?_; rintro e w6 ⟨⟨v6, rfl⟩, h1, h2⟩; have D6 := Aside0.mk h1; have G6 := Aside0.mk h2; have Z6 := Aside0.mk (Nat.le_trans Z5.out h2.size); clear h1 h2)
              | (go_at_call 22; refine Calls.mono (crash_at B w6 g1 (s1.crash keep) (s1.crash keep) keep HCC1.out D6.out Z6.out HC1.out) ?_; rintro e w7 ⟨⟨v7, rfl⟩, h1, h2⟩; have D7 := Aside0.mk h1; have G7 := Aside0.mk h2; have Z7 := Aside0.mk (Nat.le_trans Z6.out h2.size); clear h1 h2)
              | (go_at_call 16; refine Calls.mono (starton_at B w7 g1 (s1.crash keep) D7.out Z7.out) ?_; rintro e w8 ⟨⟨v8, rfl⟩, h1, h2⟩; have D8 := Aside0.mk h1; have G8 := Aside0.mk h2; have Z8 := Aside0.mk (Nat.le_trans Z7.out h2.size); clear h1 h2)
              | (go_at_call 18; refine (dlife_at w8 _ g1 _ ((i : Int) + 1) HLF.out D8.out).mono ?_; rintro e w10 ⟨rfl, rfl⟩)
              | (go_at_call 20; refine (dkept_at w8 _ g1 _ (kq + 1) HT1.out.kept D8.out).mono ?_; rintro e w10 ⟨rfl, rfl⟩)
              | (go_at_call 24; refine (doff_at w8 _ g1 _ false HT1.out.off D8.out).mono ?_; rintro e w10 ⟨rfl, rfl⟩))
            go_roundg (gk - 1)
            case measure => omega
            case rel =>
              refine ⟨i + 1, _, (kq + 1), by omega, by omega, by go_num, by first | rfl | go_num, HT1, D8, ⟨?_⟩⟩
              have b8 := (((HW.out.trans G5.out).trans G6.out).trans G7.out).trans G8.out
              have b9 := b8
              exact b9
        · rw [if_neg hkp] at ht1
          have HT1 := Aside0.mk ht1
          clear ht1
          by_cases hq0 : ((i : Int) % 4 == nn) = true
          · have hq : ((i : Int) % 4 == nn) = true := by exact hq0
            clear hq0
            obtain ⟨s6, hsy, ht2⟩ := HT1.out.sync
            have HSY := Aside0.mk hsy
            have HT2 := Aside0.mk ht2
            have hlf : s6.life = (i : Int) + 1 := by have := ht2.life; push_cast at this; exact this
            have HLF := Aside0.mk hlf
            clear hsy ht2 hlf
            go_wp2_with (first
              | (go_at_call 13; with_reducible refine Calls.mono (put_at B wr g1 s s1 x (recs15 x (.slice A4 x.f1.f1.length c4) (.slice A5 x.f1.f2.length c5) (.slice A10 x.f3.length c10) (.slice A14 x.f7.length c14)) 0 H0.out HD.out HZ.out HKX.out HXS.out.lite HXS.out.helo HOKS.out HLN.out HFS.out HAR.out HL0.out HL1.out) ?_; rintro e w5 ⟨rfl, h1, h2⟩; have D5 := Aside0.mk h1; have G5 := Aside0.mk h2; have Z5 := Aside0.mk (Nat.le_trans HZ.out h2.size); clear h1 h2 q0 q1 q2 q3 q4 q5 q6 q7 q8 q9 q10 q11 q12 q13 q14)
              | (go_at_call 22; refine Calls.mono (crash_at B w5 g1 s1 (s1.crash keep) keep rfl D5.out Z5.out HO1.out) ?_; rintro e w6 ⟨⟨v6, rfl⟩, h1, h2⟩; have D6 := Aside0.mk h1; have G6 := Aside0.mk h2; have Z6 := Aside0.mk (Nat.le_trans Z5.out h2.size); clear h1 h2)
              | (go_at_call 22; refine Calls.mono (crash_at B w6 g1 (s1.crash keep) (s1.crash keep) keep HCC1.out D6.out Z6.out HC1.out) ?_; rintro e w7 ⟨⟨v7, rfl⟩, h1, h2⟩; have D7 := Aside0.mk h1; have G7 := Aside0.mk h2; have Z7 := Aside0.mk (Nat.le_trans Z6.out h2.size); clear h1 h2)
              | (go_at_call 16; refine Calls.mono (starton_at B w7 g1 (s1.crash keep) D7.out Z7.out) ?_; rintro e w8 ⟨⟨v8, rfl⟩, h1, h2⟩; have D8 := Aside0.mk h1; have G8 := Aside0.mk h2; have Z8 := Aside0.mk (Nat.le_trans Z7.out h2.size); clear h1 h2)
              | (go_at_call 15; refine Calls.mono (sync_at B w8 g1 _ s6 0 HSY.out D8.out Z8.out (HT1.out.ok HI1.out) HT1.out.ar) ?_; rintro e w9 ⟨rfl, h1, h2⟩; have D9 := Aside0.mk h1; have G9 := Aside0.mk h2; have Z9 := Aside0.mk (Nat.le_trans Z8.out h2.size); clear h1 h2)
              | (go_at_call 18; refine (dlife_at w9 _ g1 _ ((i : Int) + 1) HLF.out D9.out).mono ?_; rintro e w10 ⟨rfl, rfl⟩)
              | (go_at_call 20; refine (dkept_at w9 _ g1 _ 0 HT2.out.kept D9.out).mono ?_; rintro e w10 ⟨rfl, rfl⟩)
              | (go_at_call 24; refine (doff_at w9 _ g1 _ false HT2.out.off D9.out).mono ?_; rintro e w10 ⟨rfl, rfl⟩))
            go_roundg (gk - 1)
            case measure => omega
            case rel =>
              refine ⟨i + 1, _, 0, by omega, by omega, by go_num, by first | rfl | go_num, HT2, D9, ⟨?_⟩⟩
              have b8 := (((HW.out.trans G5.out).trans G6.out).trans G7.out).trans G8.out
              have b9 := b8.trans G9.out
              exact b9
          · have hq : ((i : Int) % 4 == nn) = false := by simpa using hq0
            clear hq0
            have hlf : ((s1.crash keep).on).life = (i : Int) + 1 := by have := HT1.out.life; push_cast at this; exact this
            have HLF := Aside0.mk hlf
            clear hlf
            go_wp2_with (first
              | (go_at_call 13; with_reducible refine Calls.mono (put_at B wr g1 s s1 x (recs15 x (.slice A4 x.f1.f1.length c4) (.slice A5 x.f1.f2.length c5) (.slice A10 x.f3.length c10) (.slice A14 x.f7.length c14)) 0 H0.out HD.out HZ.out HKX.out HXS.out.lite HXS.out.helo HOKS.out HLN.out HFS.out HAR.out HL0.out HL1.out) ?_; rintro e w5 ⟨rfl, h1, h2⟩; have D5 := Aside0.mk h1; have G5 := Aside0.mk h2; have Z5 := Aside0.mk (Nat.le_trans HZ.out h2.size); clear h1 h2 q0 q1 q2 q3 q4 q5 q6 q7 q8 q9 q10 q11 q12 q13 q14)
              | (go_at_call 22; refine Calls.mono (crash_at B w5 g1 s1 (s1.crash keep) keep rfl D5.out Z5.out HO1.out) ?_; rintro e w6 ⟨⟨v6, rfl⟩, h1, h2⟩; have D6 := Aside0.mk h1; have G6 := Aside0.mk h2; have Z6 := Aside0.mk (Nat.le_trans Z5.out h2.size); clear h1 h2)
              | (go_at_call 22; refine Calls.mono (crash_at B w6 g1 (s1.crash keep) (s1.crash keep) keep HCC1.out D6.out Z6.out HC1.out) ?_; rintro e w7 ⟨⟨v7, rfl⟩, h1, h2⟩; have D7 := Aside0.mk h1; have G7 := Aside0.mk h2; have Z7 := Aside0.mk (Nat.le_trans Z6.out h2.size); clear h1 h2)
              | (go_at_call 16; refine Calls.mono (starton_at B w7 g1 (s1.crash keep) D7.out Z7.out) ?_; rintro e w8 ⟨⟨v8, rfl⟩, h1, h2⟩; have D8 := Aside0.mk h1; have G8 := Aside0.mk h2; have Z8 := Aside0.mk (Nat.le_trans Z7.out h2.size); clear h1 h2)
              | (go_at_call 18; refine (dlife_at w8 _ g1 _ ((i : Int) + 1) HLF.out D8.out).mono ?_; rintro e w10 ⟨rfl, rfl⟩)
              | (go_at_call 20; refine (dkept_at w8 _ g1 _ kq HT1.out.kept D8.out).mono ?_; rintro e w10 ⟨rfl, rfl⟩)
              | (go_at_call 24; refine (doff_at w8 _ g1 _ false HT1.out.off D8.out).mono ?_; rintro e w10 ⟨rfl, rfl⟩))
            go_roundg (gk - 1)
            case measure => omega
            case rel =>
              refine ⟨i + 1, _, kq, by omega, by omega, by go_num, by first | rfl | go_num, HT1, D8, ⟨?_⟩⟩
              have b8 := (((HW.out.trans G5.out).trans G6.out).trans G7.out).trans G8.out
              have b9 := b8
              exact b9
    · have hlt' : ¬ (i : Int) < (l.length : Int) := by omega
      obtain rfl : i = l.length := by omega
      have HI1 := Aside0.mk (show l.length ≤ 60 by omega)
      by_cases hkp : 0 < keep
      · have hlen : (s.recs.length : Int) = l.length := by have := HT.out.len; rw [if_pos hkp] at this; rw [this]
        have HLE := Aside0.mk hlen
        have HSF := Aside0.mk (HT.out.safe.trans hlen)
        clear hlen hlt
        go_wp2_with (first | (go_at_call 23; refine (dlen_at wr _ g1 _ _ HLE.out HD.out).mono ?_; rintro e w10 ⟨rfl, rfl⟩) | (go_at_call 25; refine (dsafe_at wr _ g1 _ _ HSF.out HD.out).mono ?_; rintro e w10 ⟨rfl, rfl⟩) | (go_at_call 14; refine (wakesD_any wr).mono ?_; rintro e w20 ⟨rfl, h1⟩; have G20 := Aside0.mk h1; clear h1))
        go_ret
        refine ⟨rfl, ?_⟩
        rw [← HBB.out]
        exact HW.out.trans (G20.out.mono (Nat.le_trans (Nat.le_of_eq HBB.out) HW.out.size))
      · have hlen : (s.recs.length : Int) = 0 := by have := HT.out.len; rw [if_neg hkp] at this; rw [this]; rfl
        have HLE := Aside0.mk hlen
        have HSF := Aside0.mk (HT.out.safe.trans hlen)
        clear hlen hlt
        go_wp2_with (first | (go_at_call 23; refine (dlen_at wr _ g1 _ _ HLE.out HD.out).mono ?_; rintro e w10 ⟨rfl, rfl⟩) | (go_at_call 25; refine (dsafe_at wr _ g1 _ _ HSF.out HD.out).mono ?_; rintro e w10 ⟨rfl, rfl⟩) | (go_at_call 14; refine (wakesD_any wr).mono ?_; rintro e w20 ⟨rfl, h1⟩; have G20 := Aside0.mk h1; clear h1))
        go_ret
        refine ⟨rfl, ?_⟩
        rw [← HBB.out]
        exact HW.out.trans (G20.out.mono (Nat.le_trans (Nat.le_of_eq HBB.out) HW.out.size))
theorem twice_any (l : List S39) (A : Option Addr) (c : Nat) (keep n : Int) (hG : OkL Ok39 l) (hc : l.length ≤ c) {w : World} (hC : k39.C w A l.length l) (_ : (Lit.int .i64 keep).wf = true) (_ : (Lit.int .i64 n).wf = true) : Calls Try.prog 5 #[.slice A l.length c, .int .i64 keep, .int .i64 n] w fun e w' => e = .returned (.bool true) ∧ Below w.heap.size w w' := twice_any0 l A c keep n hG hc w hC
end Go.Proofs.Ytbkfdejcmimhgaa
