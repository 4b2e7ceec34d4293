/- The reference's Crash and Sync. -/
import Derived.Test.YtbkfdejcmimhgaaProg
import Derived.WalkKit
import Derived.WalkLawsBesides
import Derived.Outline
import Derived.LoopTactic
import Derived.Lib.Hide
import Derived.Deep.QuietTactic
import Derived.BigQuiet
import Derived.Deep.LoopGhost
import Derived.Deep.DeepCutAuto
import Derived.Deep.CutBlock
import Derived.Deep.RegionHeld3
import Derived.Deep.RegionWith
import Derived.Deep.WholeRow
import Derived.Laws.Rows
import Derived.Laws.Tables
import Derived.Laws.ResultCell
import Derived.StillTailTactics
import Derived.Deep.DeepMust
import Derived.IntWalk
import Derived.KernelRfl
import Derived.Test.YtbkfdejcmimhgaaVa
import Derived.RegionTactic
import Derived.Test.YtbkfdejcmimhgaaEa
namespace Go.Proofs.Ytbkfdejcmimhgaa
open Go.RowKit Go.Proofs.YtbkfdejcmimhgaaW.PrintWords Go.Proofs.Ytbkfdejcmimhgaa.PDiaryExact
set_option linter.unusedVariables false
set_option linter.unusedSimpArgs false
def DSt.rcrash (s : DSt) (keep : Int) : DSt :=
  if s.off = true then s else { s with recs := s.recs.take (s.safe + s.stay keep).toNat, kept := s.kept + s.stay keep, safe := s.safe + s.stay keep, off := true, life := s.life + 1, armed := 0, keep := 0 }
def DSt.rsync (s : DSt) : Int × DSt := if s.off = true then (7, s) else if s.hit = true then (7, s.tick.rcrash s.keep) else (0, { s.tick with safe := s.recs.length, kept := 0 })
set_option maxRecDepth 100000 in
set_option maxHeartbeats 1000000 in
theorem rcrash (W : World) (S : Nat → Prop) (g : Nat) (s : DSt) (keep : Int) (h : Ry W S g s) (hok : s.Ok) : Calls Try.prog 33 #[.pointer (some ⟨g, 0, none⟩), .int .i64 keep] W fun e w' => (∃ v, e = .returned v) ∧ Ry w' S g (s.rcrash keep) ∧ Ch W w' S := by
  have HD := Aside0.mk h
  have hS := h.1
  by_cases hoff : s.off = true
  · have e1 : s.rcrash keep = s := by unfold DSt.rcrash; rw [if_pos hoff]
    rw [e1]
    obtain ⟨_, A, c, hg, hN⟩ := h
    have q3 : W.cell? ⟨g, 3, none⟩ = some (.bool true) := by rw [← hoff]; exact rc_cell hg 3 _ rfl
    clear hg hN e1
    go_enter Try.func33, Try.ntmps33
    go_wp2
    refine bodyPost_ret (results_none rfl _ _ _) rfl ?_
    exact ⟨⟨_, rfl⟩, HD.out, Ch.refl _ _⟩
  · have hoff' : s.off = false := by simpa using hoff
    obtain ⟨o1, o2, o3, o4, o5, o6, o7⟩ := hok
    obtain ⟨st, hst⟩ : ∃ st, st = s.stay keep := ⟨_, rfl⟩
    have hst0 : 0 ≤ st := by rw [hst]; unfold DSt.stay; omega
    have hst1 : s.safe + st ≤ s.recs.length := by rw [hst]; unfold DSt.stay; omega
    have HST := Aside0.mk hst
    obtain ⟨_, A, c, hg, hN⟩ := h
    have hcap : s.recs.length ≤ c := (Kd.N_reads' hN).2.1
    have HG := Aside0.mk hg
    have HN := Aside0.mk hN
    have q1 : W.cell? ⟨g, 1, none⟩ = some (.slice A s.recs.length c) := rc_cell hg 1 _ rfl
    have q2 : W.cell? ⟨g, 2, none⟩ = some (.int .i64 s.safe) := rc_cell hg 2 _ rfl
    have q3 : W.cell? ⟨g, 3, none⟩ = some (.bool false) := by rw [← hoff']; exact rc_cell hg 3 _ rfl
    clear hg hN
    go_enter Try.func33, Try.ntmps33
    go_upto_region 1 with (fail)
    go_cut [4] (fun v4 wc => v4 = .int .i64 st ∧ ∃ n, wc = W.drewN n)
    case first =>
      have hm : ∃ m : Int, m = max keep 0 ∧ 0 ≤ m := ⟨_, rfl, by omega⟩
      obtain ⟨m, hm, hm0⟩ := hm
      have i1 : IntKind.i64.wrap ((s.recs.length : Int) - s.safe) = (s.recs.length : Int) - s.safe := IntWalk.i64_in _ (by omega)
      have hmin : min m ((s.recs.length : Int) - s.safe) = st := by rw [hst, hm]; rfl
      by_cases hk : 0 ≤ keep
      · obtain rfl : m = keep := by omega
        clear hm hst
        by_cases hc : m ≤ (s.recs.length : Int) - s.safe
        · obtain rfl : st = m := by omega
          clear hmin
          go_quiet (fail)
          go_wp2
          go_meet
          case rel => exact ⟨rfl, _, rfl⟩
        · obtain rfl : st = (s.recs.length : Int) - s.safe := by omega
          clear hmin
          go_quiet (fail)
          go_wp2
          go_meet
          case rel => exact ⟨rfl, _, rfl⟩
      · obtain rfl : m = 0 := by omega
        obtain rfl : st = 0 := by omega
        have hk' : keep < 0 := by omega
        have hc : (0 : Int) ≤ (s.recs.length : Int) - s.safe := by omega
        clear hm hst hmin hk
        go_quiet (fail)
        go_wp2
        go_meet
        case rel => exact ⟨rfl, _, rfl⟩
    case rest =>
    obtain ⟨rfl, nd, rfl⟩ := hcut
    go_upto_region 2 with (fail)
    refine Facts.region_any (n := 0 + 25) #[false, false, false, false, false, false, false, false, false, false, false, false, false, false, false, false, false, false, false, false, false, false, false, false, false] (by kernel_rfl) rfl (by kernel_rfl) (fun W0 hW0 hB0 => ?_)
    have hg0 : W0.heap[g]? = some (.cells (dcells s (.slice A s.recs.length c)) 72 (0, 0)) := by rw [hW0]; exact HG.out
    have hN0 : Kd.N k39 39 W0 0 (fun k => S k ∧ k ≠ g) (.slice A s.recs.length c) s.recs := Kd.N_step HN.out (fun k _ _ => by rw [hW0]; rfl)
    have hch0 : Ch W W0 S := (Ch.of_below (pw_below_drewN (Below.refl _ _) nd)).trans (Ch.of_below (S := S) (hB0 _)) (fun k hk => .inl hk)
    have p1 : W0.cell? ⟨g, 1, none⟩ = some (.slice A s.recs.length c) := rc_cell hg0 1 _ rfl
    have p2 : W0.cell? ⟨g, 2, none⟩ = some (.int .i64 s.safe) := rc_cell hg0 2 _ rfl
    have p7 : W0.cell? ⟨g, 7, none⟩ = some (.int .i64 s.kept) := rc_cell hg0 7 _ rfl
    have pf : ∀ j, W0.frozen? ⟨g, j, none⟩ = false := fun j => frozen_of_row _ _ _ _ _ hg0
    obtain ⟨i39, hi39, _, _, _⟩ := info_parts info39
    have hcut := cut_to (P := Try.prog) 22 39 .i64 Try.underlying22 hi39 A s.recs.length c (s.safe + st) (by omega) (by omega) hcap
    have i1 : IntKind.i64.wrap (s.safe + st) = s.safe + st := IntWalk.i64_in _ (by omega)
    have i2 : IntKind.i64.wrap (s.kept + st) = s.kept + st := IntWalk.i64_in _ (by omega)
    obtain ⟨Wb, hWb⟩ : ∃ Wb, Wb = W0.setCell ⟨g, 1, none⟩ (.slice A (s.safe + st).toNat c) := ⟨_, rfl⟩
    obtain ⟨Wc, hWc⟩ : ∃ Wc, Wc = Wb.setCell ⟨g, 7, none⟩ (.int .i64 (s.kept + st)) := ⟨_, rfl⟩
    have hgb : Wb.heap[g]? = some (.cells #[.int .i64 s.limit, (.slice A (s.safe + st).toNat c), .int .i64 s.safe, .bool s.off, .int .i64 s.life, .int .i64 s.armed, .int .i64 s.keep, .int .i64 s.kept] 72 (0, 0)) := by rw [hWb]; exact heap_setCell_same _ _ _ _ _ _ hg0
    have pb7 : Wb.cell? ⟨g, 7, none⟩ = some (.int .i64 s.kept) := rc_cell hgb 7 _ rfl
    have pbf : ∀ j, Wb.frozen? ⟨g, j, none⟩ = false := fun j => frozen_of_row _ _ _ _ _ hgb
    have hgc : Wc.heap[g]? = some (.cells #[.int .i64 s.limit, (.slice A (s.safe + st).toNat c), .int .i64 s.safe, .bool s.off, .int .i64 s.life, .int .i64 s.armed, .int .i64 s.keep, .int .i64 (s.kept + st)] 72 (0, 0)) := by rw [hWc]; exact heap_setCell_same _ _ _ _ _ _ hgb
    have HGC := Aside0.mk hgc
    have hlen : (s.recs.take (s.safe + st).toNat).length = (s.safe + st).toNat := by rw [List.length_take]; omega
    have hDc : Ry Wc S g { s with recs := s.recs.take (s.safe + st).toNat, kept := s.kept + st } := by
      refine ⟨hS, A, c, ?_, ?_⟩
      · rw [hWc]
        have := heap_setCell_same Wb g 7 _ _ (.int .i64 (s.kept + st)) hgb
        rw [this]
        show some (Obj.cells _ 72 (0, 0)) = some (Obj.cells (dcells _ (.slice A (s.recs.take (s.safe + st).toNat).length c)) 72 (0, 0))
        rw [hlen]
        rfl
      · show Kd.N k39 39 Wc 0 _ (.slice A (s.recs.take (s.safe + st).toNat).length c) (s.recs.take (s.safe + st).toNat)
        rw [hlen, hWc, hWb]
        exact Kd.N_far (Kd.N_far (Kd.N_take hN0 (by omega)) (fun k hk => hk.2) _) (fun k hk => hk.2) _
    have hchc : Ch W Wc S := by
      rw [hWc, hWb]
      exact (hch0.trans (Ch.set _ hS _ _) (fun k hk => .inl hk)).trans (Ch.set _ hS _ _) (fun k hk => .inl hk)
    have HDC := Aside0.mk hDc
    have HCC := Aside0.mk hchc
    have HN0 := Aside0.mk hN0
    clear hst hgc hg0 hN0 hch0 hgb hDc hchc hi39 hB0 hW0 q1 q2 q3
    refine Facts.wpAny_inv [(0, some 22), (1, some 23), (2, some 24), (3, some 25), (4, some 26), (5, some 27), (6, some 28), (7, some 29), (8, some 30), (9, some 31), (10, some 32), (11, some 33), (12, some 34), (13, some 35), (14, some 36), (15, some 37), (16, some 38), (17, some 39), (18, some 40), (19, some 41), (20, some 42), (21, none), (22, some 43), (23, some 44), (24, none)] _ #[true, true, true, true, true, true, true, true, true, true, true, true, true, true, true, true, true, true, true, true, true, true, true, true, true] (by kernel_rfl) 0 _ _ (CrI (crpv g (.slice A s.recs.length c) (.slice A (s.safe + st).toNat c) s.safe st s.kept) W0 Wb Wc) ?hop ?H (fun i => [u22, u23, u24, u25, u26, u27, u28, u29, u30, u31, u32, u33, u34, u35, u36, u37, u38, u39, u40, u41, u42, undef, u43, u44, undef].getD i undef) (by kernel_rfl) ?hI
    case hI =>
      refine ⟨fun i v _ h => ?_, fun h => ?_, fun h => ?_, rfl⟩
      · exfalso
        revert h
        match i with
        | 0 | 1 | 2 | 3 | 4 | 5 | 6 | 7 | 8 | 9 | 10 | 11 | 12 | 13 | 14 | 15 | 16 | 17 | 18 | 19 | 20 | 21 | 22 | 23 | 24 => exact (by decide)
        | n + 25 => simp
      · exact absurd h (by decide)
      · exact absurd h (by decide)
    case hop =>
      intro z hz o ho L V X hI hL hpre K hK
      simp only [List.mem_cons, List.not_mem_nil, or_false] at hz
      rcases hz with rfl | rfl | rfl | rfl | rfl | rfl | rfl | rfl | rfl | rfl | rfl | rfl | rfl | rfl | rfl | rfl | rfl | rfl | rfl | rfl | rfl | rfl | rfl | rfl | rfl
      · obtain rfl := Option.some.inj ho
        refine Facts.OpDo.value (by kernel_rfl) rfl (v := (.pointer (some ⟨g, 0, none⟩))) (w1 := X) ?_ (hK _ _ (hI.pure 0 _ rfl (by decide) (by decide)))
        simp only [Facts.acE, Act.put, List.setIfInBounds_toArray, List.set_cons_zero, List.set_cons_succ]
        go_simp
      · obtain rfl := Option.some.inj ho
        refine Facts.OpDo.value (by kernel_rfl) rfl (v := (.pointer (some ⟨g, 0, none⟩))) (w1 := X) ?_ (hK _ _ (hI.pure 1 _ rfl (by decide) (by decide)))
        simp only [Facts.acE, Act.put, List.setIfInBounds_toArray, List.set_cons_zero, List.set_cons_succ]
        go_simp
      · obtain rfl := Option.some.inj ho
        refine Facts.OpDo.value (by kernel_rfl) rfl (v := (.pointer (some ⟨g, 0, none⟩))) (w1 := X) ?_ (hK _ _ (hI.pure 2 _ rfl (by decide) (by decide)))
        simp only [Facts.acE, Act.put, List.setIfInBounds_toArray, List.set_cons_zero, List.set_cons_succ]
        go_simp
      · obtain rfl := Option.some.inj ho
        have f2 : V 2 = (.pointer (some ⟨g, 0, none⟩)) := hI.1 2 _ rfl (hpre { on := 2, ground := .data } (by simp) rfl rfl)
        refine Facts.OpDo.value (by kernel_rfl) rfl (v := (.pointer (some ⟨g, 0, none⟩))) (w1 := X) ?_ (hK _ _ (hI.pure 3 _ rfl (by decide) (by decide)))
        simp only [Facts.acE, f2, Act.put, List.setIfInBounds_toArray, List.set_cons_zero, List.set_cons_succ]
        go_simp
      · obtain rfl := Option.some.inj ho
        have f3 : V 3 = (.pointer (some ⟨g, 0, none⟩)) := hI.1 3 _ rfl (hpre { on := 3, ground := .data } (by simp) rfl rfl)
        refine Facts.OpDo.value (by kernel_rfl) rfl (v := (.pointer (some ⟨g, 1, none⟩))) (w1 := X) ?_ (hK _ _ (hI.pure 4 _ rfl (by decide) (by decide)))
        simp only [Facts.acE, f3, Act.put, List.setIfInBounds_toArray, List.set_cons_zero, List.set_cons_succ]
        go_simp
      · obtain rfl := Option.some.inj ho
        have f4 : V 4 = (.pointer (some ⟨g, 1, none⟩)) := hI.1 4 _ rfl (hpre { on := 4, ground := .data } (by simp) rfl rfl)
        have hc : X.cell? ⟨g, 1, none⟩ = some (.slice A s.recs.length c) := by rw [hI.early (.inl hL)]; exact p1
        refine Facts.OpDo.value (by kernel_rfl) rfl (v := (.slice A s.recs.length c)) (w1 := X) ?_ (hK _ _ (hI.pure 5 _ rfl (by decide) (by decide)))
        simp only [Facts.acE, f4, Act.put, List.setIfInBounds_toArray, List.set_cons_zero, List.set_cons_succ]
        go_simp
      · obtain rfl := Option.some.inj ho
        refine Facts.OpDo.value (by kernel_rfl) rfl (v := (.pointer (some ⟨g, 0, none⟩))) (w1 := X) ?_ (hK _ _ (hI.pure 6 _ rfl (by decide) (by decide)))
        simp only [Facts.acE, Act.put, List.setIfInBounds_toArray, List.set_cons_zero, List.set_cons_succ]
        go_simp
      · obtain rfl := Option.some.inj ho
        have f6 : V 6 = (.pointer (some ⟨g, 0, none⟩)) := hI.1 6 _ rfl (hpre { on := 6, ground := .data } (by simp) rfl rfl)
        refine Facts.OpDo.value (by kernel_rfl) rfl (v := (.pointer (some ⟨g, 0, none⟩))) (w1 := X) ?_ (hK _ _ (hI.pure 7 _ rfl (by decide) (by decide)))
        simp only [Facts.acE, f6, Act.put, List.setIfInBounds_toArray, List.set_cons_zero, List.set_cons_succ]
        go_simp
      · obtain rfl := Option.some.inj ho
        have f7 : V 7 = (.pointer (some ⟨g, 0, none⟩)) := hI.1 7 _ rfl (hpre { on := 7, ground := .data } (by simp) rfl rfl)
        refine Facts.OpDo.value (by kernel_rfl) rfl (v := (.pointer (some ⟨g, 2, none⟩))) (w1 := X) ?_ (hK _ _ (hI.pure 8 _ rfl (by decide) (by decide)))
        simp only [Facts.acE, f7, Act.put, List.setIfInBounds_toArray, List.set_cons_zero, List.set_cons_succ]
        go_simp
      · obtain rfl := Option.some.inj ho
        have f8 : V 8 = (.pointer (some ⟨g, 2, none⟩)) := hI.1 8 _ rfl (hpre { on := 8, ground := .data } (by simp) rfl rfl)
        have hc : X.cell? ⟨g, 2, none⟩ = some (.int .i64 (s.safe)) := by rw [hI.early (.inr (.inl hL))]; exact p2
        refine Facts.OpDo.value (by kernel_rfl) rfl (v := (.int .i64 (s.safe))) (w1 := X) ?_ (hK _ _ (hI.pure 9 _ rfl (by decide) (by decide)))
        simp only [Facts.acE, f8, Act.put, List.setIfInBounds_toArray, List.set_cons_zero, List.set_cons_succ]
        go_simp
      · obtain rfl := Option.some.inj ho
        refine Facts.OpDo.value (by kernel_rfl) rfl (v := (.int .i64 (st))) (w1 := X) ?_ (hK _ _ (hI.pure 10 _ rfl (by decide) (by decide)))
        simp only [Facts.acE, Act.put, List.setIfInBounds_toArray, List.set_cons_zero, List.set_cons_succ]
        go_simp
      · obtain rfl := Option.some.inj ho
        have f9 : V 9 = (.int .i64 (s.safe)) := hI.1 9 _ rfl (hpre { on := 9, ground := .data } (by simp) rfl rfl)
        have f10 : V 10 = (.int .i64 (st)) := hI.1 10 _ rfl (hpre { on := 10, ground := .data } (by simp) rfl rfl)
        refine Facts.OpDo.value (by kernel_rfl) rfl (v := (.int .i64 (s.safe + st))) (w1 := X) ?_ (hK _ _ (hI.pure 11 _ rfl (by decide) (by decide)))
        simp only [Facts.acE, f9, f10, Act.put, List.setIfInBounds_toArray, List.set_cons_zero, List.set_cons_succ]
        go_simp
      · obtain rfl := Option.some.inj ho
        have f5 : V 5 = (.slice A s.recs.length c) := hI.1 5 _ rfl (hpre { on := 5, ground := .data } (by simp) rfl rfl)
        have f11 : V 11 = (.int .i64 (s.safe + st)) := hI.1 11 _ rfl (hpre { on := 11, ground := .data } (by simp) rfl rfl)
        refine Facts.OpDo.value (by kernel_rfl) rfl (v := (.slice A (s.safe + st).toNat c)) (w1 := X) ?_ (hK _ _ (hI.pure 12 _ rfl (by decide) (by decide)))
        simp only [Facts.acE, f5, f11, Act.put, List.setIfInBounds_toArray, List.set_cons_zero, List.set_cons_succ]
        go_simp
      · obtain rfl := Option.some.inj ho
        refine Facts.OpDo.value (by kernel_rfl) rfl (v := (.pointer (some ⟨g, 0, none⟩))) (w1 := X) ?_ (hK _ _ (hI.pure 13 _ rfl (by decide) (by decide)))
        simp only [Facts.acE, Act.put, List.setIfInBounds_toArray, List.set_cons_zero, List.set_cons_succ]
        go_simp
      · obtain rfl := Option.some.inj ho
        have f13 : V 13 = (.pointer (some ⟨g, 0, none⟩)) := hI.1 13 _ rfl (hpre { on := 13, ground := .data } (by simp) rfl rfl)
        refine Facts.OpDo.value (by kernel_rfl) rfl (v := (.pointer (some ⟨g, 0, none⟩))) (w1 := X) ?_ (hK _ _ (hI.pure 14 _ rfl (by decide) (by decide)))
        simp only [Facts.acE, f13, Act.put, List.setIfInBounds_toArray, List.set_cons_zero, List.set_cons_succ]
        go_simp
      · obtain rfl := Option.some.inj ho
        have f14 : V 14 = (.pointer (some ⟨g, 0, none⟩)) := hI.1 14 _ rfl (hpre { on := 14, ground := .data } (by simp) rfl rfl)
        refine Facts.OpDo.value (by kernel_rfl) rfl (v := (.pointer (some ⟨g, 7, none⟩))) (w1 := X) ?_ (hK _ _ (hI.pure 15 _ rfl (by decide) (by decide)))
        simp only [Facts.acE, f14, Act.put, List.setIfInBounds_toArray, List.set_cons_zero, List.set_cons_succ]
        go_simp
      · obtain rfl := Option.some.inj ho
        have f15 : V 15 = (.pointer (some ⟨g, 7, none⟩)) := hI.1 15 _ rfl (hpre { on := 15, ground := .data } (by simp) rfl rfl)
        have hc : X.cell? ⟨g, 7, none⟩ = some (.int .i64 (s.kept)) := by rw [hI.early (.inr (.inr hL))]; exact p7
        refine Facts.OpDo.value (by kernel_rfl) rfl (v := (.int .i64 (s.kept))) (w1 := X) ?_ (hK _ _ (hI.pure 16 _ rfl (by decide) (by decide)))
        simp only [Facts.acE, f15, Act.put, List.setIfInBounds_toArray, List.set_cons_zero, List.set_cons_succ]
        go_simp
      · obtain rfl := Option.some.inj ho
        refine Facts.OpDo.value (by kernel_rfl) rfl (v := (.int .i64 (st))) (w1 := X) ?_ (hK _ _ (hI.pure 17 _ rfl (by decide) (by decide)))
        simp only [Facts.acE, Act.put, List.setIfInBounds_toArray, List.set_cons_zero, List.set_cons_succ]
        go_simp
      · obtain rfl := Option.some.inj ho
        have f16 : V 16 = (.int .i64 (s.kept)) := hI.1 16 _ rfl (hpre { on := 16, ground := .data } (by simp) rfl rfl)
        have f17 : V 17 = (.int .i64 (st)) := hI.1 17 _ rfl (hpre { on := 17, ground := .data } (by simp) rfl rfl)
        refine Facts.OpDo.value (by kernel_rfl) rfl (v := (.int .i64 (s.kept + st))) (w1 := X) ?_ (hK _ _ (hI.pure 18 _ rfl (by decide) (by decide)))
        simp only [Facts.acE, f16, f17, Act.put, List.setIfInBounds_toArray, List.set_cons_zero, List.set_cons_succ]
        go_simp
      · obtain rfl := Option.some.inj ho
        have f0 : V 0 = (.pointer (some ⟨g, 0, none⟩)) := hI.1 0 _ rfl (hpre { on := 0, ground := .data } (by simp) rfl rfl)
        refine Facts.OpDo.value (by kernel_rfl) rfl (v := (.pointer (some ⟨g, 0, none⟩))) (w1 := X) ?_ (hK _ _ (hI.pure 19 _ rfl (by decide) (by decide)))
        simp only [Facts.acE, f0, Act.put, List.setIfInBounds_toArray, List.set_cons_zero, List.set_cons_succ]
        go_simp
      · obtain rfl := Option.some.inj ho
        have f19 : V 19 = (.pointer (some ⟨g, 0, none⟩)) := hI.1 19 _ rfl (hpre { on := 19, ground := .data } (by simp) rfl rfl)
        refine Facts.OpDo.value (by kernel_rfl) rfl (v := (.pointer (some ⟨g, 1, none⟩))) (w1 := X) ?_ (hK _ _ (hI.pure 20 _ rfl (by decide) (by decide)))
        simp only [Facts.acE, f19, Act.put, List.setIfInBounds_toArray, List.set_cons_zero, List.set_cons_succ]
        go_simp
      · obtain rfl := Option.some.inj ho
        have f20 : V 20 = (.pointer (some ⟨g, 1, none⟩)) := hI.1 20 _ rfl (hpre { on := 20, ground := .data } (by simp) rfl rfl)
        have f12 : V 12 = (.slice A (s.safe + st).toNat c) := hI.1 12 _ rfl (hpre { on := 12, ground := .data } (by simp) rfl rfl)
        obtain ⟨hX, hI'⟩ := hI.first (hpre { on := 5, ground := .phase } (by simp) rfl rfl) (hpre { on := 9, ground := .phase } (by simp) rfl rfl) (hpre { on := 16, ground := .phase } (by simp) rfl rfl) rfl hL undef
        have hk := hK undef Wb hI'
        dsimp only at hk
        rw [put_none] at hk
        refine Facts.OpDo.skip (by kernel_rfl) rfl (w1 := Wb) ?_ hk
        rw [hX, hWb]
        simp only [Facts.acE, f20, f12, Act.put, List.setIfInBounds_toArray, List.set_cons_zero, List.set_cons_succ]
        go_simp
      · obtain rfl := Option.some.inj ho
        have f1 : V 1 = (.pointer (some ⟨g, 0, none⟩)) := hI.1 1 _ rfl (hpre { on := 1, ground := .data } (by simp) rfl rfl)
        refine Facts.OpDo.value (by kernel_rfl) rfl (v := (.pointer (some ⟨g, 0, none⟩))) (w1 := X) ?_ (hK _ _ (hI.pure 22 _ rfl (by decide) (by decide)))
        simp only [Facts.acE, f1, Act.put, List.setIfInBounds_toArray, List.set_cons_zero, List.set_cons_succ]
        go_simp
      · obtain rfl := Option.some.inj ho
        have f22 : V 22 = (.pointer (some ⟨g, 0, none⟩)) := hI.1 22 _ rfl (hpre { on := 22, ground := .data } (by simp) rfl rfl)
        refine Facts.OpDo.value (by kernel_rfl) rfl (v := (.pointer (some ⟨g, 7, none⟩))) (w1 := X) ?_ (hK _ _ (hI.pure 23 _ rfl (by decide) (by decide)))
        simp only [Facts.acE, f22, Act.put, List.setIfInBounds_toArray, List.set_cons_zero, List.set_cons_succ]
        go_simp
      · obtain rfl := Option.some.inj ho
        have f23 : V 23 = (.pointer (some ⟨g, 7, none⟩)) := hI.1 23 _ rfl (hpre { on := 23, ground := .data } (by simp) rfl rfl)
        have f18 : V 18 = (.int .i64 (s.kept + st)) := hI.1 18 _ rfl (hpre { on := 18, ground := .data } (by simp) rfl rfl)
        obtain ⟨hX, hI'⟩ := hI.second (hpre { on := 21, ground := .chain } (by simp) rfl rfl) rfl hL undef
        have hk := hK undef Wc hI'
        dsimp only at hk
        rw [put_none] at hk
        refine Facts.OpDo.skip (by kernel_rfl) rfl (w1 := Wc) ?_ hk
        rw [hX, hWc]
        simp only [Facts.acE, f23, f18, Act.put, List.setIfInBounds_toArray, List.set_cons_zero, List.set_cons_succ]
        go_simp
    case H =>
      intro V X hI
      obtain rfl : X = Wc := hI.done rfl
      clear hI
      simp only [Facts.acE, Act.put, List.setIfInBounds_toArray, List.set_cons_zero, List.set_cons_succ]
      refine Facts.wpAny_done (by kernel_rfl) ?_
      have hg9 := HGC.out
      have z1 : X.cell? ⟨g, 1, none⟩ = some (.slice A (s.safe + st).toNat c) := rc_cell hg9 1 _ rfl
      have z2 : X.cell? ⟨g, 2, none⟩ = some (.int .i64 s.safe) := rc_cell hg9 2 _ rfl
      have z3 : X.cell? ⟨g, 3, none⟩ = some (.bool s.off) := rc_cell hg9 3 _ rfl
      have z4 : X.cell? ⟨g, 4, none⟩ = some (.int .i64 s.life) := rc_cell hg9 4 _ rfl
      have z5 : X.cell? ⟨g, 5, none⟩ = some (.int .i64 s.armed) := rc_cell hg9 5 _ rfl
      have zf : ∀ j, X.frozen? ⟨g, j, none⟩ = false := fun j => frozen_of_row _ _ _ _ _ hg9
      have z6 : X.cell? ⟨g, 6, none⟩ = some (.int .i64 s.keep) := rc_cell hg9 6 _ rfl
      have e2 : (((s.safe + st).toNat : Nat) : Int) = s.safe + st := by omega
      have HHL := Aside0.mk hlen
      have hr : s.rcrash keep = { s with recs := s.recs.take (s.safe + st).toNat, kept := s.kept + st, safe := s.safe + st, off := true, life := s.life + 1, armed := 0, keep := 0 } := by
        unfold DSt.rcrash
        rw [if_neg hoff, ← HST.out]
      have HRR := Aside0.mk hr
      clear hg9 hlen hr hWb hWc p1 p2 p7 pf pb7 pbf hcut HN0 HG HN
      go_wp2
      go_end0
      rw [HRR.out]
      exact ⟨⟨_, rfl⟩, (((((HDC.out.set (s' := { s with recs := s.recs.take (s.safe + st).toNat, kept := s.kept + st, safe := s.safe + st }) 2 _ rfl (fun _ => rfl)).set (s' := { s with recs := s.recs.take (s.safe + st).toNat, kept := s.kept + st, safe := s.safe + st, off := true }) 3 _ rfl (fun _ => rfl)).set (s' := { s with recs := s.recs.take (s.safe + st).toNat, kept := s.kept + st, safe := s.safe + st, off := true, life := s.life + 1 }) 4 _ rfl (fun _ => rfl)).set (s' := { s with recs := s.recs.take (s.safe + st).toNat, kept := s.kept + st, safe := s.safe + st, off := true, life := s.life + 1, armed := 0 }) 5 _ rfl (fun _ => rfl)).set (s' := { s with recs := s.recs.take (s.safe + st).toNat, kept := s.kept + st, safe := s.safe + st, off := true, life := s.life + 1, armed := 0, keep := 0 }) 6 _ rfl (fun _ => rfl)), (((((HCC.out.trans (Ch.set _ hS _ _) (fun k hk => .inl hk)).trans (Ch.set _ hS _ _) (fun k hk => .inl hk)).trans (Ch.set _ hS _ _) (fun k hk => .inl hk)).trans (Ch.set _ hS _ _) (fun k hk => .inl hk)).trans (Ch.set _ hS _ _) (fun k hk => .inl hk))⟩
set_option maxRecDepth 100000 in
set_option maxHeartbeats 1000000 in
theorem rsync (W : World) (S : Nat → Prop) (g : Nat) (s : DSt) (h : Ry W S g s) (hok : s.Ok) (ha : s.Armed) : Calls Try.prog 31 #[.pointer (some ⟨g, 0, none⟩)] W fun e w' => e = .returned (.int .i64 s.rsync.1) ∧ Ry w' S g s.rsync.2 ∧ Ch W w' S := by
  have HD := Aside0.mk h
  have hS := h.1
  obtain ⟨_, A, c, hg, hN⟩ := h
  by_cases hoff : s.off = true
  · have e1 : s.rsync = (7, s) := by unfold DSt.rsync; rw [if_pos hoff]
    rw [e1]
    have q3 : W.cell? ⟨g, 3, none⟩ = some (.bool true) := by rw [← hoff]; exact rc_cell hg 3 _ rfl
    clear hg hN e1
    go_enter Try.func31, Try.ntmps31
    go_wp2
    go_ret
    exact ⟨rfl, HD.out, Ch.refl _ _⟩
  · have hoff' : s.off = false := by simpa using hoff
    have q3 : W.cell? ⟨g, 3, none⟩ = some (.bool false) := by rw [← hoff']; exact rc_cell hg 3 _ rfl
    clear hg hN
    by_cases hhit : s.hit = true
    · have e1 : s.rsync = (7, s.tick.rcrash s.keep) := by unfold DSt.rsync; rw [if_neg hoff, if_pos hhit]
      have HE1 := Aside0.mk e1
      rw [e1]
      have HH := Aside0.mk hhit
      clear e1 hoff hoff' hhit
      go_enter Try.func31, Try.ntmps31
      go_wp2_with (first | (go_at_call 48; refine (rtrips W S g s HD.out ha.1 ha.2).mono ?_; rintro e w1 ⟨rfl, h1, h2⟩; rw [HH.out]; have hk6 : w1.cell? ⟨g, 6, none⟩ = some (.int .i64 s.keep) := (by obtain ⟨_, A1, c1, hg1, _⟩ := h1; rw [← s.tick_eq.2.2.2.2.1]; exact rc_cell hg1 6 _ rfl); have H1 := Aside0.mk h1; have H2 := Aside0.mk h2; clear h1 h2) | (go_at_call 33; refine (rcrash w1 S g s.tick s.keep H1.out hok.tick).mono ?_; rintro e w2 ⟨⟨v, rfl⟩, h1, h2⟩; have H3 := Aside0.mk h1; have H4 := Aside0.mk h2; clear h1 h2))
      go_ret
      exact ⟨rfl, H3.out, H2.out.trans H4.out (fun k hk => .inl hk)⟩
    · have hh : s.hit = false := by simpa using hhit
      have e1 : s.rsync = (0, { s.tick with safe := s.recs.length, kept := 0 }) := by unfold DSt.rsync; rw [if_neg hoff, if_neg hhit]
      rw [e1]
      have HH := Aside0.mk hh
      clear e1 hoff hoff' hhit hh
      go_enter Try.func31, Try.ntmps31
      go_wp2_with (first | (go_at_call 48; refine (rtrips W S g s HD.out ha.1 ha.2).mono ?_; rintro e w1 ⟨rfl, h1, h2⟩; rw [HH.out]; obtain ⟨_, A1, c1, hg1, _⟩ := id h1; have k1 : w1.cell? ⟨g, 1, none⟩ = some (.slice A1 s.recs.length c1) := (by rw [← s.tick_eq.1]; exact rc_cell hg1 1 _ rfl); have k2 : w1.cell? ⟨g, 2, none⟩ = some (.int .i64 s.tick.safe) := rc_cell hg1 2 _ rfl; have k7 : w1.cell? ⟨g, 7, none⟩ = some (.int .i64 s.tick.kept) := rc_cell hg1 7 _ rfl; have kf : ∀ j, w1.frozen? ⟨g, j, none⟩ = false := (fun j => frozen_of_row _ _ _ _ _ hg1); have H1 := Aside0.mk h1; have H2 := Aside0.mk h2; clear h1 h2 hg1))
      go_ret
      exact ⟨rfl, (H1.out.set (s' := { s.tick with safe := s.recs.length }) 2 (.int .i64 s.recs.length) rfl (fun _ => rfl)).set (s' := { s.tick with safe := s.recs.length, kept := 0 }) 7 (.int .i64 0) rfl (fun _ => rfl), (H2.out.trans (Ch.set _ hS _ _) (fun k hk => .inl hk)).trans (Ch.set _ hS _ _) (fun k hk => .inl hk)⟩
end Go.Proofs.Ytbkfdejcmimhgaa
