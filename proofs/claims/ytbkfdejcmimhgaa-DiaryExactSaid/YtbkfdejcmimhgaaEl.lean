/- The walk of DiaryExact. -/
import Derived.Test.YtbkfdejcmimhgaaProg
import Derived.WalkKit
import Derived.WalkLawsBesides
import Derived.Outline
import Derived.LoopTactic
import Derived.Lib.Hide
import Derived.Deep.QuietTactic
import Derived.BigQuiet
import Derived.Deep.LoopGhost
import Derived.Deep.DeepCutAuto
import Derived.Deep.CutBlock
import Derived.Deep.RegionHeld3
import Derived.Deep.RegionWith
import Derived.Deep.WholeRow
import Derived.Laws.Rows
import Derived.Laws.Tables
import Derived.Laws.ResultCell
import Derived.StillTailTactics
import Derived.Deep.DeepMust
import Derived.IntWalk
import Derived.KernelRfl
import Derived.Test.YtbkfdejcmimhgaaVa
import Derived.RegionTactic
import Derived.Test.YtbkfdejcmimhgaaEm
import Derived.Test.YtbkfdejcmimhgaaEj
namespace Go.Proofs.Ytbkfdejcmimhgaa
open Go.RowKit Go.Proofs.YtbkfdejcmimhgaaW.PrintWords Go.Proofs.YtbkfdejcmimhgaaW.PrintMore Go.Proofs.Ytbkfdejcmimhgaa.PDiaryExact
set_option linter.unusedVariables false
set_option linter.unusedSimpArgs false
theorem cell_keep {W W' : World} {a : Addr} {v : Value} (hb : Below W.heap.size W W') (h : W.cell? a = some v) : W'.cell? a = some v := by
  have hlt : a.block < W.heap.size := by
    rcases Nat.lt_or_ge a.block W.heap.size with h1 | h1
    · exact h1
    · unfold World.cell? at h
      rw [Array.getElem?_eq_none h1] at h
      simp at h
  rw [cell_same (hb.block _ hlt)]
  exact h
theorem okI_le {z : Int} (h : OkI z) : z ≤ 9223372036854775807 := by
  unfold OkI Lit.wf at h
  simp only [Bool.and_eq_true, decide_eq_true_eq] at h
  exact h.2
theorem Ow.row {S : Nat → Prop} {W W' : World} (h : Ow S W W') {b : Nat} {cells : Array Value} {t : TypeId} {fr : Nat × Nat} (ht : t ≠ 5) (hb : W.heap[b]? = some (.cells cells t fr)) : W'.heap[b]? = some (.cells cells t fr) := h.2.2 b cells t fr ht hb
theorem dnew_at (n : Int) (h1 : 1 ≤ n) (h2 : n ≤ 131072) (w : World) : Calls Try.prog 11 #[.int .i64 n] w fun e w' => e = .returned (.tuple #[.pointer (some ⟨w.heap.size, 0, none⟩), .int .i64 0]) ∧ Dy w' (fun k => k = w.heap.size) w.heap.size (DSt.new n) ∧ Below w.heap.size w w' := dnew_yes n h1 h2 w
set_option maxRecDepth 100000 in
set_option maxHeartbeats 16000000 in
theorem exact_any0 (lim : Int) (l : List Ac) (A : Option Addr) (c : Nat) (hG : OkL OkAc l) (hc : l.length ≤ c) (w : World) (hC : k59.C w A l.length l) : Calls Try.prog 9 #[.int .i64 lim, .slice A l.length c] w fun e w' => e = .returned (.bool true) ∧ Below w.heap.size w w' := by
  have HCC := Aside0.mk hC
  have HG := Aside0.mk hG
  clear hC hG
  by_cases hl : 40 < l.length
  · have hl' : (40 : Int) < (l.length : Int) := by omega
    go_enter Try.func9, Try.ntmps9
    go_wp2_with (fail)
    go_ret
    exact ⟨rfl, Below.refl _ _⟩
  have h40 : l.length ≤ 40 := by omega
  have hl' : ¬ (40 : Int) < (l.length : Int) := by omega
  clear hl
  by_cases hlim : lim < 1 ∨ 131072 < lim
  · have HL := Aside0.mk hlim
    clear hlim
    go_enter Try.func9, Try.ntmps9
    go_wp2_with (first
      | (go_at_call 11; refine Calls.mono (dnew_no lim HL.out w) ?_; rintro e w1 ⟨rfl, rfl⟩)
      | (go_at_call 29; refine Calls.mono (rnew_no lim HL.out w) ?_; rintro e w1 ⟨rfl, rfl⟩)
      | (go_at_call 14; refine (wakesD_any w).mono ?_; rintro e w20 ⟨rfl, h1⟩; have G20 := Aside0.mk h1; clear h1))
    go_ret
    exact ⟨rfl, G20.out⟩
  have HL0 := Aside0.mk (show 1 ≤ lim by omega)
  have HL1 := Aside0.mk (show lim ≤ 131072 by omega)
  clear hlim
  obtain ⟨B, hB⟩ : ∃ B, B = w.heap.size := ⟨_, rfl⟩
  have HBB := Aside0.mk hB
  clear hB
  go_enter Try.func9, Try.ntmps9
  go_wp2_with (first
    | (go_at_call 11; refine Calls.mono (dnew_at lim HL0.out HL1.out w) ?_; rintro e w1 ⟨rfl, h1, h2⟩; obtain ⟨g1, hg1⟩ : ∃ g1, g1 = w.heap.size := ⟨_, rfl⟩; have HG1 := Aside0.mk hg1; rw [← hg1] at h1 ⊢; have D1 := Aside0.mk h1; have B1 := Aside0.mk h2; clear h1 h2 hg1)
    | (go_at_call 29; refine Calls.mono (rnew_yes lim HL0.out HL1.out w1) ?_; rintro e w2 ⟨rfl, h1, h2⟩; obtain ⟨g2, hg2⟩ : ∃ g2, g2 = w1.heap.size := ⟨_, rfl⟩; have HG2 := Aside0.mk hg2; rw [← hg2] at h1 ⊢; have D2 := Aside0.mk h1; have B2 := Aside0.mk h2; clear h1 h2 hg2))
  have P0 : Aside0 (Pair B (fun _ => False) w2 g1 g2 (DSt.new lim) (DSt.new lim)) := ⟨by
    have h1 := D1.out
    have h2 := D2.out
    rw [HG1.out] at h1 ⊢
    rw [HG2.out] at h2 ⊢
    exact pair_new B lim HL0.out HL1.out w w1 w2 (by rw [HBB.out]; omega) h1 B1.out h2 B2.out⟩
  have G0 : Aside0 (Below B w w2) := ⟨by rw [HBB.out]; exact B1.out.trans (B2.out.mono B1.out.size)⟩
  clear D1 D2 B1 B2 HG1 HG2
  go_loopg [9, 10, 11, 12, 13, 14, 15, 16, 17] l.length (fun g v9 v10 v11 v12 v13 v14 v15 v16 v17 wr => ∃ (i : Nat) (s t : DSt), i ≤ l.length ∧ g + i = l.length ∧ v9 = .int .i64 i ∧ Aside0 (Pl i s t) ∧ Aside0 (Pair B (fun _ => False) wr g1 g2 s t) ∧ Aside0 (Below B w wr))
  case atStart => exact ⟨0, _, _, by omega, by omega, rfl, ⟨Pl.new lim HL0.out HL1.out⟩, P0, G0⟩
  case round =>
  clear P0 G0
  obtain ⟨i, s, t, hi, hg, rfl, HP, HQ, HW⟩ := hrel
  by_cases hlt : i < l.length
  · have hlt' : (i : Int) < (l.length : Int) := by omega
    have hbw : Below w.heap.size w wr := by rw [← HBB.out]; exact HW.out
    obtain ⟨ad, Ar, cr, x, rfl, hx, q0, q1, q2, q3, hlr, hcr⟩ := at_T59 HCC.out i (by omega)
    replace q0 := cell_keep hbw q0
    replace q1 := cell_keep hbw q1
    replace q2 := cell_keep hbw q2
    replace q3 := cell_keep hbw q3
    have HFA := Aside0.mk (show Kd.F k39 w (fun k => k < B) Ar x.recs.length x.recs by rw [HBB.out]; exact Kd.C_F heap39 hcr)
    replace hcr := Kd.C_below hcr hbw
    clear hbw
    have hok : OkAc x := HG.out.2 x (List.mem_of_getElem? hx)
    have HOK := Aside0.mk hok
    have HCR := Aside0.mk hcr
    have HLR := Aside0.mk hlr
    obtain ⟨b, hb, hs⟩ := h18 x.recs hok.2.1.2
    have HB := Aside0.mk hb
    clear hx hok hcr hb hlr
    cases b with
    | true =>
      clear hs
      go_wp2_with (first
        | (go_at_call 10; refine Calls.mono (heavy_any (A := Ar) (c := cr) true (Kd.C_below HCR.out ((Below.refl _ _).alloc (Nat.le_refl _) _)) HLR.out HB.out) ?_; rintro e w2 ⟨rfl, h1⟩; have hb2 : Below wr.heap.size wr w2 := (((Below.refl wr.heap.size wr).alloc (Nat.le_refl _) _).trans (h1.mono (by simp))); have G2 := Aside0.mk hb2; have BK2 := Aside0.mk (keep_blk (heap_alloc_new wr (.cells #[.int .i64 x.kind, .slice Ar x.recs.length cr, .int .i64 x.n, .int .i64 x.keep] 59)) h1); have k0w2 : w2.cell? ⟨wr.heap.size, 0, none⟩ = some (.int .i64 x.kind) := rc_cell BK2.out 0 _ rfl; have k1w2 : w2.cell? ⟨wr.heap.size, 1, none⟩ = some (.slice Ar x.recs.length cr) := rc_cell BK2.out 1 _ rfl; have k2w2 : w2.cell? ⟨wr.heap.size, 2, none⟩ = some (.int .i64 x.n) := rc_cell BK2.out 2 _ rfl; have k3w2 : w2.cell? ⟨wr.heap.size, 3, none⟩ = some (.int .i64 x.keep) := rc_cell BK2.out 3 _ rfl; clear h1 hb2 q0 q1 q2 q3))
      go_ret
      exact ⟨rfl, by rw [← HBB.out]; exact HW.out.trans (G2.out.mono HQ.out.size)⟩
    | false =>
    have HSX := Aside0.mk (hs rfl)
    have hx60 : x.recs.length ≤ 60 := HSX.out.1
    have HX60 := Aside0.mk (show x.recs.length ≤ 1000000 by omega)
    have HFX := Aside0.mk (fine_of_small HSX.out.2)
    clear hs
    go_upto_region 17 with (first
      | (go_at_call 10; refine Calls.mono (heavy_any (A := Ar) (c := cr) false (Kd.C_below HCR.out ((Below.refl _ _).alloc (Nat.le_refl _) _)) HLR.out HB.out) ?_; rintro e w2 ⟨rfl, h1⟩; have hb2 : Below wr.heap.size wr w2 := (((Below.refl wr.heap.size wr).alloc (Nat.le_refl _) _).trans (h1.mono (by simp))); have G2 := Aside0.mk hb2; have BK2 := Aside0.mk (keep_blk (heap_alloc_new wr (.cells #[.int .i64 x.kind, .slice Ar x.recs.length cr, .int .i64 x.n, .int .i64 x.keep] 59)) h1); have k0w2 : w2.cell? ⟨wr.heap.size, 0, none⟩ = some (.int .i64 x.kind) := rc_cell BK2.out 0 _ rfl; have k1w2 : w2.cell? ⟨wr.heap.size, 1, none⟩ = some (.slice Ar x.recs.length cr) := rc_cell BK2.out 1 _ rfl; have k2w2 : w2.cell? ⟨wr.heap.size, 2, none⟩ = some (.int .i64 x.n) := rc_cell BK2.out 2 _ rfl; have k3w2 : w2.cell? ⟨wr.heap.size, 3, none⟩ = some (.int .i64 x.keep) := rc_cell BK2.out 3 _ rfl; clear h1 hb2 q0 q1 q2 q3)
      | (go_at_call 27; refine Calls.mono (rtwinsb_any Ar cr x.recs w2 (Kd.C_below HCR.out G2.out) HFX.out.lites HX60.out) ?_; rintro e w3 ⟨v3, rfl, h1, h2⟩; obtain ⟨Ai, ci, rfl⟩ := Kd.N_slice h1; have N3 := Aside0.mk h1; have G3 := Aside0.mk (G2.out.trans (h2.mono G2.out.size)); have BK3 := Aside0.mk (keep_blk BK2.out h2); have k0w3 : w3.cell? ⟨wr.heap.size, 0, none⟩ = some (.int .i64 x.kind) := rc_cell BK3.out 0 _ rfl; have k1w3 : w3.cell? ⟨wr.heap.size, 1, none⟩ = some (.slice Ar x.recs.length cr) := rc_cell BK3.out 1 _ rfl; have k2w3 : w3.cell? ⟨wr.heap.size, 2, none⟩ = some (.int .i64 x.n) := rc_cell BK3.out 2 _ rfl; have k3w3 : w3.cell? ⟨wr.heap.size, 3, none⟩ = some (.int .i64 x.keep) := rc_cell BK3.out 3 _ rfl; clear h1 h2 k0w2 k1w2 k2w2 k3w2))
    obtain ⟨U, hU⟩ : ∃ U : Nat → Prop, U = (fun k => wr.heap.size ≤ k ∧ k < w3.heap.size) := ⟨_, rfl⟩
    have P3 : Aside0 (Pair B U w3 g1 g2 s t) := ⟨(HQ.out.hold G3.out).less (fun k hk => by rw [hU] at hk; exact .inr hk)⟩
    have U0 : Aside0 (U wr.heap.size) := ⟨by rw [hU]; exact ⟨Nat.le_refl _, (Array.getElem?_eq_some_iff.1 BK3.out).1⟩⟩
    have HW3 : Aside0 (Below B w w3) := ⟨HW.out.trans (G3.out.mono HQ.out.size)⟩
    have HI := Aside0.mk (show i < 40 by omega)
    have hUN : ∀ k, w2.heap.size ≤ k → k < w3.heap.size → U k := fun k h1 h2 => by rw [hU]; exact ⟨Nat.le_trans G2.out.size h1, h2⟩
    have HUN := Aside0.mk hUN
    have HUU := Aside0.mk hU
    obtain ⟨b0, hb0⟩ : ∃ b0, b0 = wr.heap.size := ⟨_, rfl⟩
    rw [← hb0] at k0w3 k1w3 k2w3 k3w3 U0 BK3 ⊢
    have HB0 := Aside0.mk hb0
    clear hU hUN hb0
    go_upto_block 2 with (fail)
    obtain ⟨qq, hqq⟩ : ∃ qq : Int, (IntKind.u64.wrap x.kind).tmod 6 = qq := ⟨_, rfl⟩
    rw [hqq]
    clear hqq
    go_cut [12, 13, 63] (fun v12 v13 v63 wc => ∃ (r : Int) (s1 t1 : DSt), v12 = .int .i64 r ∧ v13 = .int .i64 r ∧ Aside0 (Pl (i + 1) s1 t1) ∧ Aside0 (Pair B U wc g1 g2 s1 t1) ∧ Aside0 (Sd B U w3 wc))
    case first =>
      by_cases h0 : qq = 0
      · have c0 : (qq == 0) = true := by rw [beq_iff_eq]; exact h0
        by_cases hz : x.recs.length = 0
        · have hn0 : ¬ (0 : Int) < (x.recs.length : Int) := by omega
          clear hz
          go_wp2_with (fail)
          go_meet
          case rel => exact ⟨0, s, t, rfl, rfl, ⟨HP.out.up⟩, P3, ⟨Sd.refl _ _ _⟩⟩
        · have hn0 : (0 : Int) < (x.recs.length : Int) := by omega
          have hn1 : 0 < x.recs.length := by omega
          clear hz
          have HPB := Aside0.mk HP.out.1
          have HPT := Aside0.mk HP.out.bt
          have HSS := Aside0.mk HSX.out.2
          have HFI := Aside0.mk (Kd.F_bound (Kd.N_F (N_of_b N3.out)))
          have HVU := Aside0.mk (show ∀ k, w2.heap.size ≤ k ∧ k < w3.heap.size → U k from fun k hk => HUN.out k hk.1 hk.2)
          have HF3 := Aside0.mk (Kd.F_step HFA.out (fun k hk _ => HW3.out.block k hk))
          have HL3 := Aside0.mk (Array.getElem?_eq_some_iff.1 BK3.out).1
          have HSM0 := Aside0.mk (show Small (x.recs.getD 0 z39) from HSX.out.2 _ (by simp [List.getD_eq_getElem?_getD, hn1]))
          have HPUT := Aside0.mk (HP.out.put HI.out _ HSM0.out)
          go_upto_region 22 with (fail)
          refine exput_last _ _ _ _ _ _ _ _ _ _ _ _ _ _ _ _ _ _ _ _ _ _ _ _ _ _ _ _ _ _ _ _ _ _ _ _ _ _ _ _ _ _ _ _ _ _ _ _ _ _ _ _ _ _ _ _ _ _ _ _ _ _ _ _ _ _ _ _ _ _ _ _ _ _ _ _ _ _ _ _ _ _ _ _ _ _ _ _ _ _ _ _ _ _ _ _ _ _ _ _ _ _ _ _ _ _ _ _ _ _ _ _ _ _ _ _ _ _ _ _ _ _ _ _ _ _ _ _ _ _ _ _ _ _ _ _ _ _ _ _ _ _ _ _ _ _ _ _ _ _ _ _ _ _ _ _ _ _ _ _ _ _ _ _ _ _ _ _ _ _ _ _ _ _ _ _ _ _ _ B i U w w3 g1 g2 b0 x.recs.length Ai Ar ci cr s t x.recs (s.put (x.recs.getD 0 z39)).1 _ P3 HPB HPT (Nat.le_of_lt HI.out) rfl HSS HFI HVU HF3 U0 HL3 ⟨k1w3⟩ hn1 ⟨rfl⟩ ⟨HPUT.out.1⟩ ?_
          intro v73 v74 v75 v76 v77 v78 v79 v80 v81 v82 v83 W hp hs
          have HPW := Aside0.mk hp
          have HSW := Aside0.mk hs
          clear hp hs
          go_wp2_with (fail)
          go_meet
          case rel => exact ⟨_, _, _, rfl, rfl, ⟨HPUT.out.2⟩, HPW, HSW⟩
      by_cases h1 : qq = 1
      · have c0 : (qq == 0) = false := by rw [beq_eq_false_iff_ne]; exact h0
        have c1 : (qq == 1) = true := by rw [beq_iff_eq]; exact h1
        have HQS := Aside0.mk (HP.out.sync HI.out)
        go_wp2_with (first
          | (go_at_call 15; refine Calls.mono (pair_sync P3.out HP.out.1 (Nat.le_of_lt HI.out)) ?_; rintro e w4 ⟨rfl, h1, h2⟩; have P4 := Aside0.mk h1; have S4 := Aside0.mk h2; have BKw4 := Aside0.mk ((h2.2 b0 U0.out (Array.getElem?_eq_some_iff.1 BK3.out).1).trans BK3.out); have k0w4 : w4.cell? ⟨b0, 0, none⟩ = some (.int .i64 x.kind) := rc_cell BKw4.out 0 _ rfl; have k1w4 : w4.cell? ⟨b0, 1, none⟩ = some (.slice Ar x.recs.length cr) := rc_cell BKw4.out 1 _ rfl; have k2w4 : w4.cell? ⟨b0, 2, none⟩ = some (.int .i64 x.n) := rc_cell BKw4.out 2 _ rfl; have k3w4 : w4.cell? ⟨b0, 3, none⟩ = some (.int .i64 x.keep) := rc_cell BKw4.out 3 _ rfl; clear h1 h2 k0w3 k1w3 k2w3 k3w3)
          | (go_at_call 31; refine Calls.mono (pair_rsync P4.out HP.out.bt (Nat.le_of_lt HI.out)) ?_; rintro e w5 ⟨rfl, h1, h2⟩; rw [HQS.out.1]; have P5 := Aside0.mk h1; have S5 := Aside0.mk (S4.out.trans h2); clear h1 h2))
        go_meet
        case rel => exact ⟨s.sync.1, _, _, rfl, rfl, ⟨HQS.out.2⟩, P5, S5⟩
      by_cases h2 : qq = 2
      · have c0 : (qq == 0) = false := by rw [beq_eq_false_iff_ne]; exact h0
        have c1 : (qq == 1) = false := by rw [beq_eq_false_iff_ne]; exact h1
        have c2 : (qq == 2) = true := by rw [beq_iff_eq]; exact h2
        have HPB := Aside0.mk HP.out.1
        have HPT := Aside0.mk HP.out.bt
        have HSS := Aside0.mk HSX.out.2
        have HFI := Aside0.mk (Kd.F_bound (Kd.N_F (N_of_b N3.out)))
        have HVU := Aside0.mk (show ∀ k, w2.heap.size ≤ k ∧ k < w3.heap.size → U k from fun k hk => HUN.out k hk.1 hk.2)
        have HF3 := Aside0.mk (Kd.F_step HFA.out (fun k hk _ => HW3.out.block k hk))
        have HL3 := Aside0.mk (Array.getElem?_eq_some_iff.1 BK3.out).1
        have HREN := Aside0.mk (HP.out.renew HI.out x.recs hx60 HSS.out)
        have HCI := Aside0.mk (Kd.N_reads' N3.out).2.1
        have H60 := Aside0.mk hx60
        go_upto_region 26 with (fail)
        refine exren_last _ _ _ _ _ _ _ _ _ _ _ _ _ _ _ _ _ _ _ _ _ _ _ _ _ _ _ _ _ _ _ _ _ _ _ _ _ _ _ _ _ _ _ _ _ _ _ _ _ _ _ _ _ _ _ _ _ _ _ _ _ _ _ _ _ _ _ _ _ _ _ _ _ _ _ _ _ _ _ _ _ _ _ _ _ _ _ _ _ _ _ _ _ _ _ _ _ _ _ _ _ _ _ _ _ _ _ _ _ _ _ _ _ _ _ _ _ _ _ _ _ _ _ _ _ _ _ _ _ _ _ _ _ _ _ _ _ _ _ _ _ _ _ _ _ _ _ _ _ _ _ _ _ _ _ _ _ _ _ _ _ _ _ _ _ _ _ _ _ _ _ _ _ _ _ _ _ _ _ B i U w w3 g1 g2 b0 x.recs.length Ai Ar ci cr s t x.recs (s.renew x.recs).1 _ P3 HPB HPT (Nat.le_of_lt HI.out) rfl HSS HFI HVU HF3 U0 HL3 ⟨k1w3⟩ HCI HLR H60 ⟨rfl⟩ ⟨HREN.out.1⟩ ?_
        intro v92 v93 v94 v95 v96 v97 v98 W hp hs
        have HPW := Aside0.mk hp
        have HSW := Aside0.mk hs
        clear hp hs
        go_wp2_with (fail)
        go_meet
        case rel => exact ⟨_, _, _, rfl, rfl, ⟨HREN.out.2⟩, HPW, HSW⟩
      by_cases h3 : qq = 3
      · have c0 : (qq == 0) = false := by rw [beq_eq_false_iff_ne]; exact h0
        have c1 : (qq == 1) = false := by rw [beq_eq_false_iff_ne]; exact h1
        have c2 : (qq == 2) = false := by rw [beq_eq_false_iff_ne]; exact h2
        have c3 : (qq == 3) = true := by rw [beq_iff_eq]; exact h3
        go_wp2_with (first
          | (go_at_call 22; refine Calls.mono (pair_crash P3.out HP.out.1 (Nat.le_of_lt HI.out) x.keep) ?_; rintro e w4 ⟨⟨v4, rfl⟩, h1, h2⟩; have P4 := Aside0.mk h1; have S4 := Aside0.mk h2; have BKw4 := Aside0.mk ((h2.2 b0 U0.out (Array.getElem?_eq_some_iff.1 BK3.out).1).trans BK3.out); have k0w4 : w4.cell? ⟨b0, 0, none⟩ = some (.int .i64 x.kind) := rc_cell BKw4.out 0 _ rfl; have k1w4 : w4.cell? ⟨b0, 1, none⟩ = some (.slice Ar x.recs.length cr) := rc_cell BKw4.out 1 _ rfl; have k2w4 : w4.cell? ⟨b0, 2, none⟩ = some (.int .i64 x.n) := rc_cell BKw4.out 2 _ rfl; have k3w4 : w4.cell? ⟨b0, 3, none⟩ = some (.int .i64 x.keep) := rc_cell BKw4.out 3 _ rfl; clear h1 h2 k0w3 k1w3 k2w3 k3w3)
          | (go_at_call 33; refine Calls.mono (pair_rcrash P4.out HP.out.bt (Nat.le_of_lt HI.out) x.keep) ?_; rintro e w5 ⟨⟨v5, rfl⟩, h1, h2⟩; have P5 := Aside0.mk h1; have S5 := Aside0.mk (S4.out.trans h2); clear h1 h2))
        go_meet
        case rel => exact ⟨0, _, _, rfl, rfl, ⟨HP.out.crash HI.out x.keep⟩, P5, S5⟩
      by_cases h4 : qq = 4
      · have c0 : (qq == 0) = false := by rw [beq_eq_false_iff_ne]; exact h0
        have c1 : (qq == 1) = false := by rw [beq_eq_false_iff_ne]; exact h1
        have c2 : (qq == 2) = false := by rw [beq_eq_false_iff_ne]; exact h2
        have c3 : (qq == 3) = false := by rw [beq_eq_false_iff_ne]; exact h3
        have c4 : (qq == 4) = true := by rw [beq_iff_eq]; exact h4
        obtain ⟨mm, hmm⟩ : ∃ mm, mm = max x.n 0 := ⟨_, rfl⟩
        have HMM := Aside0.mk hmm
        clear hmm
        go_wp2_with (first
          | (go_at_call 12; refine Calls.mono (pair_trip P3.out x.n x.keep mm HMM.out) ?_; rintro e w4 ⟨⟨v4, rfl⟩, h1, h2⟩; have P4 := Aside0.mk h1; have S4 := Aside0.mk h2; have BKw4 := Aside0.mk ((h2.2 b0 U0.out (Array.getElem?_eq_some_iff.1 BK3.out).1).trans BK3.out); have k0w4 : w4.cell? ⟨b0, 0, none⟩ = some (.int .i64 x.kind) := rc_cell BKw4.out 0 _ rfl; have k1w4 : w4.cell? ⟨b0, 1, none⟩ = some (.slice Ar x.recs.length cr) := rc_cell BKw4.out 1 _ rfl; have k2w4 : w4.cell? ⟨b0, 2, none⟩ = some (.int .i64 x.n) := rc_cell BKw4.out 2 _ rfl; have k3w4 : w4.cell? ⟨b0, 3, none⟩ = some (.int .i64 x.keep) := rc_cell BKw4.out 3 _ rfl; clear h1 h2 k0w3 k1w3 k2w3 k3w3)
          | (go_at_call 34; refine Calls.mono (pair_rtrip P4.out x.n x.keep mm HMM.out) ?_; rintro e w5 ⟨⟨v5, rfl⟩, h1, h2⟩; have P5 := Aside0.mk h1; have S5 := Aside0.mk (S4.out.trans h2); clear h1 h2))
        go_meet
        case rel => exact ⟨0, _, _, rfl, rfl, ⟨HP.out.trip mm x.keep (by rw [HMM.out]; omega) (by have : x.n ≤ 9223372036854775807 := okI_le HOK.out.2.2.1; rw [HMM.out]; omega)⟩, P5, S5⟩
      have c0 : (qq == 0) = false := by rw [beq_eq_false_iff_ne]; exact h0
      have c1 : (qq == 1) = false := by rw [beq_eq_false_iff_ne]; exact h1
      have c2 : (qq == 2) = false := by rw [beq_eq_false_iff_ne]; exact h2
      have c3 : (qq == 3) = false := by rw [beq_eq_false_iff_ne]; exact h3
      have c4 : (qq == 4) = false := by rw [beq_eq_false_iff_ne]; exact h4
      go_wp2_with (first
        | (go_at_call 16; refine Calls.mono (pair_start P3.out) ?_; rintro e w4 ⟨⟨v4, rfl⟩, h1, h2⟩; have P4 := Aside0.mk h1; have S4 := Aside0.mk h2; have BKw4 := Aside0.mk ((h2.2 b0 U0.out (Array.getElem?_eq_some_iff.1 BK3.out).1).trans BK3.out); have k0w4 : w4.cell? ⟨b0, 0, none⟩ = some (.int .i64 x.kind) := rc_cell BKw4.out 0 _ rfl; have k1w4 : w4.cell? ⟨b0, 1, none⟩ = some (.slice Ar x.recs.length cr) := rc_cell BKw4.out 1 _ rfl; have k2w4 : w4.cell? ⟨b0, 2, none⟩ = some (.int .i64 x.n) := rc_cell BKw4.out 2 _ rfl; have k3w4 : w4.cell? ⟨b0, 3, none⟩ = some (.int .i64 x.keep) := rc_cell BKw4.out 3 _ rfl; clear h1 h2 k0w3 k1w3 k2w3 k3w3)
        | (go_at_call 35; refine Calls.mono (pair_rstart P4.out) ?_; rintro e w5 ⟨⟨v5, rfl⟩, h1, h2⟩; have P5 := Aside0.mk h1; have S5 := Aside0.mk (S4.out.trans h2); clear h1 h2))
      go_meet
      case rel => exact ⟨0, _, _, rfl, rfl, ⟨HP.out.start⟩, P5, S5⟩
    case rest =>
    obtain ⟨r, s1, t1, rfl, rfl, HP1, HQ1, HS1⟩ := hcut
    clear k0w3 k1w3 k2w3 k3w3 P3
    have HWc := Aside0.mk (HW3.out.trans HS1.out.1)
    have k1c : wc.cell? ⟨b0, 1, none⟩ = some (.slice Ar x.recs.length cr) := rc_cell ((HS1.out.2 b0 U0.out (Array.getElem?_eq_some_iff.1 BK3.out).1).trans BK3.out) 1 _ rfl
    have Nc := Aside0.mk (Kd.N_reads' (N_of_b (Kd.N_step N3.out (fun k hk hlt => HS1.out.2 k (HUN.out k hk hlt) hlt))))
    have HX1000 := Aside0.mk (show x.recs.length ≤ 1000 by omega)
    go_wp2_with (first
      | (go_at_call 19; refine Calls.mono (recs_at wc Ai ci x.recs.length Ar cr x.recs.length x.recs HSX.out.2 HX1000.out Nc.out.2.2 Nc.out.2.1 (Kd.F_now (Kd.F_step HFA.out (fun k hk _ => HWc.out.block k hk))) HLR.out) ?_; rintro e w6 ⟨rfl, h1⟩; have B6 := Aside0.mk h1; have P6 := Aside0.mk (HQ1.out.below h1); clear h1)
      | (go_at_call 36; refine Calls.mono (pair_same P6.out HP1.out.sm HP1.out.1 (Nat.succ_le_of_lt HI.out)) ?_; rintro e w7 ⟨rfl, h1⟩; have P7 := Aside0.mk (P6.out.below h1); have S7 := Aside0.mk (HS1.out.trans (Sd.of_below (B6.out.trans (h1.mono B6.out.size)) HQ1.out.size)); clear h1))
    clear k1c HQ1 HS1 P6 B6 HWc Nc
    obtain ⟨g0, rfl⟩ : ∃ g0 : Nat, g0 = gk := ⟨_, rfl⟩
    obtain ⟨wo, rfl⟩ : ∃ wo : World, wo = wr := ⟨_, rfl⟩
    go_loopg [14] x.recs.length (fun g v14 wx => ∃ j : Nat, j ≤ x.recs.length ∧ g + j = x.recs.length ∧ v14 = .int .i64 j ∧ Aside0 (Ow U w7 wx))
    case atStart => exact ⟨0, by omega, by omega, rfl, ⟨Ow.refl _ _⟩⟩
    case round =>
    obtain ⟨wx, rfl⟩ : ∃ wx : World, wx = wr := ⟨_, rfl⟩
    obtain ⟨j, hj, hgj, rfl, HO⟩ := hrel
    by_cases hjl : j < x.recs.length
    · have hjl' : (j : Int) < (x.recs.length : Int) := by omega
      obtain ⟨ai, cells, fr, A5, n5, c5, A14, n14, c14, rfl, h39, y5, y14, d5, d14, f5, f14, o5, o14, hown⟩ := at_in N3.out HSX.out.2 j hjl
      have hlt39 : ai.block < w3.heap.size := (Array.getElem?_eq_some_iff.1 h39).1
      have h7 : w7.heap[ai.block]? = some (.cells cells 39 fr) := (S7.out.2 _ (HUN.out _ hown hlt39) hlt39).trans h39
      have HC39 := Aside0.mk h7
      have hx39 : wx.heap[ai.block]? = w3.heap[ai.block]? := (HO.out.2.2 _ _ _ _ (by decide) h7).trans h39.symm
      have z5 := (cell_same (W := w3) (W' := wx) (a := ⟨(ai.add (j * 15)).block, (ai.add (j * 15)).off + 5, none⟩) (by rw [add_block]; exact hx39)).trans y5
      have z14 := (cell_same (W := w3) (W' := wx) (a := ⟨(ai.add (j * 15)).block, (ai.add (j * 15)).off + 14, none⟩) (by rw [add_block]; exact hx39)).trans y14
      have O5 := Aside0.mk (((o5.mono HUN.out).keep (fun k hk hlt => S7.out.2 k hk hlt)).ow HO.out)
      have O14 := Aside0.mk (((o14.mono HUN.out).keep (fun k hk hlt => S7.out.2 k hk hlt)).ow HO.out)
      have E5 := Aside0.mk d5
      have E14 := Aside0.mk d14
      have F5 := Aside0.mk f5
      have F14 := Aside0.mk f14
      have HZ5 := Aside0.mk z5
      clear y5 y14 d5 d14 f5 f14 o5 o14 h39 hx39 hown hlt39 h7 z5
      go_wp2_with (first
        | (go_at_call 37; with_reducible refine Calls.mono (over_any wx U A14 n14 c14 O14.out E14.out F14.out) ?_; rintro e w8 ⟨⟨v8, rfl⟩, h1⟩; have z58 := (cell_same (W := wx) (W' := w8) (a := ⟨(ai.add (j * 15)).block, (ai.add (j * 15)).off + 5, none⟩) (by rw [add_block]; exact (Ow.row h1 (by decide) (Ow.row HO.out (by decide) HC39.out)).trans (Ow.row HO.out (by decide) HC39.out).symm)).trans HZ5.out; have H8 := Aside0.mk h1; clear h1 z14)
        | (go_at_call 37; with_reducible refine Calls.mono (over_any w8 U A5 n5 c5 (O5.out.ow H8.out) E5.out F5.out) ?_; rintro e w9 ⟨⟨v9, rfl⟩, h1⟩; have H9 := Aside0.mk h1; clear h1 z58))
      go_roundg (gk - 1)
      case measure => omega
      case rel => exact ⟨j + 1, by omega, by omega, by go_num, ⟨(HO.out.trans H8.out).trans H9.out⟩⟩
    have hjl' : ¬ (j : Int) < (x.recs.length : Int) := by omega
    obtain rfl : j = x.recs.length := by omega
    clear hjl
    have PX := Aside0.mk (P7.out.ow HO.out (fun k hk => hk))
    have SXW : Aside0 (Below B w wx) := ⟨(HW3.out.trans S7.out.1).trans (HO.out.1.behind P7.out.size (fun k hk => by rw [HUU.out] at hk; exact Nat.le_trans HQ.out.size hk.1))⟩
    clear HO P7 S7
    by_cases hoff : s1.off = true
    · have HOF := Aside0.mk hoff
      clear hoff
      go_wp2_with (first
        | (go_at_call 17; refine Calls.mono (pair_read_no PX.out HOF.out) ?_; rintro e w9 ⟨rfl, rfl⟩)
        | (go_at_call 36; refine Calls.mono (pair_same PX.out HP1.out.sm HP1.out.1 (Nat.succ_le_of_lt HI.out)) ?_; rintro e w9 ⟨rfl, h1⟩; have P9 := Aside0.mk (PX.out.below h1); have S9 := Aside0.mk (SXW.out.trans (h1.mono PX.out.size)); clear h1))
      go_roundg (g0 - 1)
      case measure => omega
      case rel => exact ⟨i + 1, s1, t1, by omega, by omega, by go_num, HP1, ⟨P9.out.less (fun k hk => hk.elim)⟩, S9⟩
    · have HOF := Aside0.mk (show s1.off = false by simpa using hoff)
      have HBX := Aside0.mk PX.out.size
      have HR100 := Aside0.mk (show s1.recs.length ≤ 101 by have h1 := HP1.out.1.len; have h2 := HI.out; omega)
      have HR1 := HR100.out
      clear hoff
      go_wp2_with (first
        | (go_at_call 17; refine Calls.mono (pair_read_yes PX.out HP1.out.1 (Nat.succ_le_of_lt HI.out) HOF.out) ?_; rintro e w9 ⟨v9, rfl, h1, h2⟩; obtain ⟨A9, c9, rfl⟩ := Kd.N_slice h1; have N9 := Aside0.mk h1; have P9 := Aside0.mk (PX.out.hold h2); have S9 := Aside0.mk (SXW.out.trans (h2.mono PX.out.size)); clear h1 h2))
      clear PX SXW
      obtain ⟨g3, rfl⟩ : ∃ g3 : Nat, g3 = gk := ⟨_, rfl⟩
      go_loopg [17] s1.recs.length (fun g v17 wy => ∃ j : Nat, j ≤ s1.recs.length ∧ g + j = s1.recs.length ∧ v17 = .int .i64 j ∧ Aside0 (Ow (fun k => wx.heap.size ≤ k ∧ k < w9.heap.size) w9 wy))
      case atStart => exact ⟨0, by omega, by omega, rfl, ⟨Ow.refl _ _⟩⟩
      case round =>
      obtain ⟨wy, rfl⟩ : ∃ wy : World, wy = wr := ⟨_, rfl⟩
      obtain ⟨j, hj, hgj, rfl, HO⟩ := hrel
      by_cases hjl : j < s1.recs.length
      · have hjl' : (j : Int) < (s1.recs.length : Int) := by omega
        obtain ⟨ai, cells, fr, A5, n5, c5, A14, n14, c14, rfl, h39, y5, y14, d5, d14, f5, f14, o5, o14, hown⟩ := at_in N9.out HP1.out.1.small j hjl
        have hx39 : wy.heap[ai.block]? = w9.heap[ai.block]? := (HO.out.2.2 _ _ _ _ (by decide) h39).trans h39.symm
        have z14 := (cell_same (W := w9) (W' := wy) (a := ⟨(ai.add (j * 15)).block, (ai.add (j * 15)).off + 14, none⟩) (by rw [add_block]; exact hx39)).trans y14
        have O14 := Aside0.mk ((o14.mono (fun k h1 h2 => (⟨h1, h2⟩ : wx.heap.size ≤ k ∧ k < w9.heap.size))).ow HO.out)
        have E14 := Aside0.mk d14
        have F14 := Aside0.mk f14
        clear y5 y14 d5 d14 f5 f14 o5 o14 h39 hx39 hown
        go_wp2_with (first
          | (go_at_call 37; with_reducible refine Calls.mono (over_any wy (fun k => wx.heap.size ≤ k ∧ k < w9.heap.size) A14 n14 c14 O14.out E14.out F14.out) ?_; rintro e w10 ⟨⟨v10, rfl⟩, h1⟩; have H10 := Aside0.mk h1; clear h1 z14))
        go_roundg (gk - 1)
        case measure => omega
        case rel => exact ⟨j + 1, by omega, by omega, by go_num, ⟨HO.out.trans H10.out⟩⟩
      have hjl' : ¬ (j : Int) < (s1.recs.length : Int) := by omega
      obtain rfl : j = s1.recs.length := by omega
      clear hjl
      have PY := Aside0.mk (P9.out.ow HO.out (fun k hk => .inr hk))
      have SY : Aside0 (Below B w wy) := ⟨S9.out.trans (HO.out.1.behind P9.out.size (fun k hk => by have h1 := P9.out.size; have h2 := hk.1; have h3 := HBX.out; omega))⟩
      go_wp2_with (first
        | (go_at_call 36; refine Calls.mono (pair_same PY.out HP1.out.sm HP1.out.1 (Nat.succ_le_of_lt HI.out)) ?_; rintro e w11 ⟨rfl, h1⟩; have P11 := Aside0.mk (PY.out.below h1); have S11 := Aside0.mk (SY.out.trans (h1.mono PY.out.size)); clear h1))
      go_roundg (g0 - 1)
      case measure => omega
      case rel => exact ⟨i + 1, s1, t1, by omega, by omega, by go_num, HP1, ⟨P11.out.less (fun k hk => hk.elim)⟩, S11⟩
  · have hlt' : ¬ (i : Int) < (l.length : Int) := by omega
    go_wp2_with (first
      | (go_at_call 14; refine (wakesD_any wr).mono ?_; rintro e w20 ⟨rfl, h1⟩; have G20 := Aside0.mk h1; clear h1))
    go_ret
    exact ⟨rfl, by rw [← HBB.out]; exact HW.out.trans (G20.out.mono HQ.out.size)⟩
theorem exact_any (lim : Int) (l : List Ac) (A : Option Addr) (c : Nat) (_ : (Lit.int .i64 lim).wf = true) (hG : OkL OkAc l) (hc : l.length ≤ c) {w : World} (hC : k59.C w A l.length l) : Calls Try.prog 9 #[.int .i64 lim, .slice A l.length c] w fun e w' => e = .returned (.bool true) ∧ Below w.heap.size w w' := exact_any0 lim l A c hG hc w hC
end Go.Proofs.Ytbkfdejcmimhgaa
