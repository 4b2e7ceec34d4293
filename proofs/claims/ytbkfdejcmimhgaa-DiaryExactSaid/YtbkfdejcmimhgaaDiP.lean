/- A diary's Renew. -/
import Derived.Test.YtbkfdejcmimhgaaProg
import Derived.WalkKit
import Derived.WalkLawsBesides
import Derived.Outline
import Derived.LoopTactic
import Derived.Lib.Hide
import Derived.Deep.QuietTactic
import Derived.BigQuiet
import Derived.Deep.LoopGhost
import Derived.Deep.DeepCutAuto
import Derived.Deep.CutBlock
import Derived.Deep.RegionHeld3
import Derived.Deep.RegionWith
import Derived.Deep.WholeRow
import Derived.Laws.Rows
import Derived.Laws.Tables
import Derived.Laws.ResultCell
import Derived.StillTailTactics
import Derived.Deep.DeepMust
import Derived.IntWalk
import Derived.KernelRfl
import Derived.Test.YtbkfdejcmimhgaaVa
import Derived.RegionTactic
import Derived.Test.YtbkfdejcmimhgaaDiK
namespace Go.Proofs.Ytbkfdejcmimhgaa
open Go.RowKit Go.Proofs.YtbkfdejcmimhgaaW.PrintWords Go.Proofs.Ytbkfdejcmimhgaa.PDiaryExact
set_option linter.unusedVariables false
set_option linter.unusedSimpArgs false
/-- What the operations of Renew's test yield. -/
def RnF (g : Nat) (sl : Value) (rm lim : Int) (full : Bool) : Nat → Value → World → Prop
  | 0, v, _ => v = sl
  | 1, v, _ => v = .int .i64 rm
  | 2, v, _ | 3, v, _ | 4, v, _ => v = .pointer (some ⟨g, 0, none⟩)
  | 5, v, _ => v = .int .i64 lim
  | 6, v, _ | 7, v, _ => v = .bool full
  | _, _, _ => True
theorem RnF.stab (g : Nat) (sl : Value) (rm lim : Int) (full : Bool) : ∀ i v w1 w2, RnF g sl rm lim full i v w1 → Below w1.heap.size w1 w2 → RnF g sl rm lim full i v w2
  | 0, _, _, _, h, _ | 1, _, _, _, h, _ | 2, _, _, _, h, _ | 3, _, _, _, h, _ | 4, _, _, _, h, _ | 5, _, _, _, h, _ | 6, _, _, _, h, _ | 7, _, _, _, h, _ => h
  | _ + 8, _, _, _, _, _ => trivial
theorem drooms_at (W : World) (A : Option Addr) (c : Nat) (l : List S39) (us : Int) (hu : us = roomsOf l) (hC : k39.C W A l.length l) (hc : l.length ≤ c) (hF : Fine l) (hl : l.length ≤ 1000000) : Calls Try.prog 43 #[.slice A l.length c] W fun e w' => e = .returned (.int .i64 us) ∧ Below W.heap.size W w' := by
  subst hu
  exact diary_rooms.calls (l.length + 1) A c l (roomsOf l) W hC hc (rooms_f l hF hl)
def DSt.renew (s : DSt) (l : List S39) : Int × DSt :=
  if s.off = true then (7, s) else if s.limit < roomsOf l then (8, s) else if s.hit = true then (7, s.tick.crash s.keep) else (0, { s.tick with recs := l, safe := l.length, kept := 0 })
theorem dy_renewed (W : World) (S : Nat → Prop) (g : Nat) (t : DSt) (l : List S39) (A1 : Option Addr) (c1 : Nat) (rv : Value) (w2 : World) (hg : w2.heap[g]? = some (.cells (dcells t rv) 66 (0, 0))) (hS : S g) (N0 : Nat) (hlt : g < N0) (hW : W.heap.size ≤ N0) (hN : Kd.N k39 39 w2 N0 (fun k => N0 ≤ k) (.slice A1 l.length c1) l) : Dy (w2.setCell ⟨g, 1, none⟩ (.slice A1 l.length c1)) (fun k => S k ∨ W.heap.size ≤ k) g { t with recs := l } := by
  refine ⟨.inl hS, A1, c1, ?_, ?_⟩
  · rw [heap_setCell_same _ _ _ _ _ _ hg]
    rfl
  · exact Kd.N_far (Kd.N_lower (Kd.N_mono hN (fun k hk => ⟨.inr (Nat.le_trans hW hk), fun e => by omega⟩)) (Nat.zero_le _)) (fun k hk => hk.2) _
set_option maxRecDepth 100000 in
set_option maxHeartbeats 2000000 in
theorem drenew (W : World) (S : Nat → Prop) (ok : Nat → Prop) (g : Nat) (s : DSt) (l : List S39) (A : Option Addr) (c : Nat) (hD : Dy W S g s) (hSb : ∀ k, S k → k < W.heap.size) (hV : Kd.F k39 W ok A l.length l) (hd : ∀ k, ok k → ¬ S k) (hc : l.length ≤ c) (hF : Fine l) (hl : l.length ≤ 1000000) (hok : s.Ok) (ha : s.Armed) :
    Calls Try.prog 26 #[.pointer (some ⟨g, 0, none⟩), .slice A l.length c] W fun e w' => e = .returned (.int .i64 (s.renew l).1) ∧ Dy w' (fun k => S k ∨ W.heap.size ≤ k) g (s.renew l).2 ∧ Ch W w' S := by
  have HD := Aside0.mk hD
  have HV := Aside0.mk hV
  have hS := hD.1
  have hglt := hD.lt
  obtain ⟨_, A0, c0, hg, hN⟩ := hD
  have HG := Aside0.mk hg
  clear hN hV
  by_cases hoff : s.off = true
  · have e1 : s.renew l = (7, s) := by unfold DSt.renew; rw [if_pos hoff]
    rw [e1]
    have q3 : W.cell? ⟨g, 3, none⟩ = some (.bool true) := by rw [← hoff]; exact rc_cell hg 3 _ rfl
    clear hg e1
    go_enter Try.func26, Try.ntmps26
    go_wp2
    go_ret
    exact ⟨rfl, HD.out.mono (fun k hk => .inl hk), Ch.refl _ _⟩
  · have hoff' : s.off = false := by simpa using hoff
    have q3 : W.cell? ⟨g, 3, none⟩ = some (.bool false) := by rw [← hoff']; exact rc_cell hg 3 _ rfl
    clear hg
    go_enter Try.func26, Try.ntmps26
    go_upto_region 3 with (fail)
    obtain ⟨full, hfull⟩ : ∃ full : Bool, full = decide (s.limit < roomsOf l) := ⟨_, rfl⟩
    have HFULL := Aside0.mk hfull
    obtain ⟨rm, hrm⟩ : ∃ rm, rm = roomsOf l := ⟨_, rfl⟩
    have HRM := Aside0.mk hrm
    rw [← hrm] at hfull
    have hfd : decide (s.limit < rm) = full := hfull.symm
    clear hrm hfull
    refine Facts.region_any (n := 0 + 8) #[false, false, false, false, false, false, false, false] (by kernel_rfl) rfl (by kernel_rfl) (fun W0 hW0 hB0 => ?_)
    have hB1 : Below W.heap.size W W0 := hB0 _
    clear hW0 hB0
    refine Facts.wpAny_eval [(0, some 11), (1, some 12), (2, some 13), (3, some 14), (4, some 15), (5, some 16), (6, some 17), (7, some 10)] _ #[true, true, true, true, true, true, true, true] (by kernel_rfl) 0 _ _ (fun w1 w2 => Below w1.heap.size w1 w2) (RnF g (.slice A l.length c) rm s.limit full) Facts.below_refl Facts.below_tr (RnF.stab _ _ _ _ _) ?hop ?H (fun _ => undef) (by kernel_rfl)
    case hop =>
      intro y hx o ho V W2 hR hpre K hK
      have hW : Below W.heap.size W W2 := hB1.trans (hR.mono hB1.size)
      simp only [List.mem_cons, List.not_mem_nil, or_false] at hx
      rcases hx with rfl | rfl | rfl | rfl | rfl | rfl | rfl | rfl
      · obtain rfl := Option.some.inj ho
        refine Facts.OpDo.value (by kernel_rfl) rfl (v := (.slice A l.length c)) (w1 := W2) ?_ ?_
        · simp only [Facts.acE, Act.put, List.setIfInBounds_toArray, List.set_cons_zero, List.set_cons_succ]
          go_simp
        · exact hK _ _ rfl (Below.refl _ _)
      · obtain rfl := Option.some.inj ho
        have fp0 : V 0 = .slice A l.length c := hpre { on := 0, ground := .data } (by simp) rfl rfl
        refine Facts.OpDo.goes Try.func43 (by kernel_rfl) rfl #[V 0] (by kernel_rfl) rfl rfl (by kernel_rfl) ?_
        rw [fp0]
        refine (drooms_at W2 A c l rm HRM.out (Kd.F_now (Kd.F_below HV.out hW)) hc hF hl).mono ?_
        rintro e w' ⟨rfl, hb'⟩
        exact ⟨_, rfl, hK _ _ rfl hb'⟩
      · obtain rfl := Option.some.inj ho
        refine Facts.OpDo.value (by kernel_rfl) rfl (v := (.pointer (some ⟨g, 0, none⟩))) (w1 := W2) ?_ ?_
        · simp only [Facts.acE, Act.put, List.setIfInBounds_toArray, List.set_cons_zero, List.set_cons_succ]
          go_simp
        · exact hK _ _ rfl (Below.refl _ _)
      · obtain rfl := Option.some.inj ho
        have fp2 : V 2 = (.pointer (some ⟨g, 0, none⟩)) := hpre { on := 2, ground := .data } (by simp) rfl rfl
        refine Facts.OpDo.value (by kernel_rfl) rfl (v := (.pointer (some ⟨g, 0, none⟩))) (w1 := W2) ?_ ?_
        · simp only [Facts.acE, fp2, Act.put, List.setIfInBounds_toArray, List.set_cons_zero, List.set_cons_succ]
          go_simp
        · exact hK _ _ rfl (Below.refl _ _)
      · obtain rfl := Option.some.inj ho
        have fp3 : V 3 = (.pointer (some ⟨g, 0, none⟩)) := hpre { on := 3, ground := .data } (by simp) rfl rfl
        refine Facts.OpDo.value (by kernel_rfl) rfl (v := (.pointer (some ⟨g, 0, none⟩))) (w1 := W2) ?_ ?_
        · simp only [Facts.acE, fp3, Act.put, List.setIfInBounds_toArray, List.set_cons_zero, List.set_cons_succ]
          go_simp
        · exact hK _ _ rfl (Below.refl _ _)
      · obtain rfl := Option.some.inj ho
        have fp4 : V 4 = (.pointer (some ⟨g, 0, none⟩)) := hpre { on := 4, ground := .data } (by simp) rfl rfl
        have hc : W2.cell? ⟨g, 0, none⟩ = some (.int .i64 s.limit) := rc_cell (keep_blk HG.out hW) 0 _ rfl
        refine Facts.OpDo.value (by kernel_rfl) rfl (v := (.int .i64 s.limit)) (w1 := W2) ?_ ?_
        · simp only [Facts.acE, fp4, Act.put, List.setIfInBounds_toArray, List.set_cons_zero, List.set_cons_succ]
          go_simp
        · exact hK _ _ rfl (Below.refl _ _)
      · obtain rfl := Option.some.inj ho
        have fp1 : V 1 = (.int .i64 rm) := hpre { on := 1, ground := .data } (by simp) rfl rfl
        have fp5 : V 5 = (.int .i64 s.limit) := hpre { on := 5, ground := .data } (by simp) rfl rfl
        refine Facts.OpDo.value (by kernel_rfl) rfl (v := (.bool full)) (w1 := W2) ?_ ?_
        · simp only [Facts.acE, fp1, fp5, Act.put, List.setIfInBounds_toArray, List.set_cons_zero, List.set_cons_succ]
          go_simp
        · exact hK _ _ rfl (Below.refl _ _)
      · obtain rfl := Option.some.inj ho
        have fp6 : V 6 = (.bool full) := hpre { on := 6, ground := .data } (by simp) rfl rfl
        refine Facts.OpDo.value (by kernel_rfl) rfl (v := (.bool full)) (w1 := W2) ?_ ?_
        · simp only [Facts.acE, fp6, Act.put, List.setIfInBounds_toArray, List.set_cons_zero, List.set_cons_succ]
          go_simp
        · exact hK _ _ rfl (Below.refl _ _)
    case H =>
      intro V W2 hR hΦ
      have f0 := hΦ (0, some 11) (by simp)
      have f1 := hΦ (1, some 12) (by simp)
      have f2 := hΦ (2, some 13) (by simp)
      have f3 := hΦ (3, some 14) (by simp)
      have f4 := hΦ (4, some 15) (by simp)
      have f5 := hΦ (5, some 16) (by simp)
      have f6 := hΦ (6, some 17) (by simp)
      have f7 := hΦ (7, some 10) (by simp)
      clear hΦ
      simp only [RnF] at f0 f1 f2 f3 f4 f5 f6 f7
      have hW : Below W.heap.size W W2 := hB1.trans (hR.mono hB1.size)
      clear hR
      simp only [Facts.acE, f0, f1, f2, f3, f4, f5, f6, f7, Act.put, List.setIfInBounds_toArray, List.set_cons_zero, List.set_cons_succ]
      clear f0 f1 f2 f3 f4 f5 f6 f7 V
      refine Facts.wpAny_done (by kernel_rfl) ?_
      have HW2 := Aside0.mk hW
      clear hW hB1
      have HD2 := Aside0.mk (HD.out.below HW2.out)
      cases full
      · have hnf : ¬ s.limit < roomsOf l := by simpa using HFULL.out.symm
        by_cases hhit : s.hit = true
        · have e1 : s.renew l = (7, s.tick.crash s.keep) := by unfold DSt.renew; rw [if_neg hoff, if_neg hnf, if_pos hhit]
          have HE1 := Aside0.mk e1
          have HH := Aside0.mk hhit
          clear e1 hoff hoff' hhit hnf
          go_wp2_with (first
            | (go_at_call 40; refine (dtrips W2 S g s HD2.out ha.1 ha.2).mono ?_; rintro e w1 ⟨rfl, h1, h2⟩; rw [HH.out]; have hk6 : w1.cell? ⟨g, 6, none⟩ = some (.int .i64 s.keep) := (by obtain ⟨_, A1, c1, hg1, _⟩ := h1; rw [← s.tick_eq.2.2.2.2.1]; exact rc_cell hg1 6 _ rfl); have H1 := Aside0.mk h1; have H2 := Aside0.mk h2; clear h1 h2)
            | (go_at_call 22; refine (dcrash w1 S g s.tick s.keep H1.out hok.tick).mono ?_; rintro e w2 ⟨⟨v, rfl⟩, h1, h2⟩; have H3 := Aside0.mk h1; have H4 := Aside0.mk h2; clear h1 h2))
          go_ret
          rw [HE1.out]
          exact ⟨rfl, H3.out.mono (fun k hk => .inl hk), ((Ch.of_below (S := S) HW2.out).trans H2.out (fun k hk => .inl hk)).trans H4.out (fun k hk => .inl hk)⟩
        · have hh : s.hit = false := by simpa using hhit
          have e1 : s.renew l = (0, { s.tick with recs := l, safe := l.length, kept := 0 }) := by unfold DSt.renew; rw [if_neg hoff, if_neg hnf, if_neg hhit]
          have HE1 := Aside0.mk e1
          have HH := Aside0.mk hh
          clear e1 hoff hoff' hhit hh hnf
          go_wp2_with (first
            | (go_at_call 40; refine (dtrips W2 S g s HD2.out ha.1 ha.2).mono ?_; rintro e w1 ⟨rfl, h1, h2⟩; rw [HH.out]; have H1 := Aside0.mk h1; have H2 := Aside0.mk h2; clear h1 h2)
            | (go_at_call 41; refine (dtwins_any A c l w1 (Kd.F_now (Kd.F_kept (Kd.F_below HV.out HW2.out) H2.out.2 hd)) hF.lites hl).mono ?_; rintro e w2 ⟨v, rfl, h1, h2⟩; obtain ⟨A1, c1, rfl⟩ := Kd.N_slice h1; obtain ⟨_, A2, c2, hg1, _⟩ := H1.out; have hg2 : w2.heap[g]? = some (.cells (dcells s.tick (.slice A2 s.tick.recs.length c2)) 66 (0, 0)) := keep_blk hg1 h2; have k1 : w2.cell? ⟨g, 1, none⟩ = some (.slice A2 s.tick.recs.length c2) := rc_cell hg2 1 _ rfl; have k2 : w2.cell? ⟨g, 2, none⟩ = some (.int .i64 s.tick.safe) := rc_cell hg2 2 _ rfl; have k7 : w2.cell? ⟨g, 7, none⟩ = some (.int .i64 s.tick.kept) := rc_cell hg2 7 _ rfl; have kf : ∀ j, w2.frozen? ⟨g, j, none⟩ = false := (fun j => frozen_of_row _ _ _ _ _ hg2); have HR := Aside0.mk (dy_renewed W S g s.tick l A1 c1 _ w2 hg2 hS w1.heap.size (Nat.lt_of_lt_of_le hglt (Nat.le_trans HW2.out.size H2.out.1.size)) (Nat.le_trans HW2.out.size H2.out.1.size) h1); have H3 := Aside0.mk h2; clear h1 h2 hg1 hg2))
          go_ret
          rw [HE1.out]
          exact ⟨rfl, (HR.out.set (s' := { s.tick with recs := l, safe := l.length }) 2 (.int .i64 l.length) rfl (fun _ => rfl)).set (s' := { s.tick with recs := l, safe := l.length, kept := 0 }) 7 (.int .i64 0) rfl (fun _ => rfl), ((((((Ch.of_below (S := S) HW2.out).trans H2.out (fun k hk => .inl hk)).trans (Ch.of_below (S := S) H3.out) (fun k hk => .inl hk))).trans (Ch.set _ hS _ _) (fun k hk => .inl hk)).trans (Ch.set _ hS _ _) (fun k hk => .inl hk)).trans (Ch.set _ hS _ _) (fun k hk => .inl hk)⟩
      · have hnf : s.limit < roomsOf l := by simpa using HFULL.out.symm
        have e1 : s.renew l = (8, s) := by unfold DSt.renew; rw [if_neg hoff, if_pos hnf]
        have HE1 := Aside0.mk e1
        clear e1 hoff hoff' hnf
        go_wp2
        go_ret
        rw [HE1.out]
        exact ⟨rfl, HD2.out.mono (fun k hk => .inl hk), Ch.of_below HW2.out⟩
theorem renew_at (B : Nat) (W : World) (g : Nat) (s s' : DSt) (l : List S39) (A : Option Addr) (c : Nat) (r : Int) (hs : s.renew l = (r, s')) (h : Db B W g s) (hB : B ≤ W.heap.size) (hV : Kd.F k39 W (fun k => k < B) A l.length l) (hc : l.length ≤ c) (hF : Fine l) (hl : l.length ≤ 1000000) (hok : s.Ok) (ha : s.Armed) : Calls Try.prog 26 #[.pointer (some ⟨g, 0, none⟩), .slice A l.length c] W fun e w' => e = .returned (.int .i64 r) ∧ Db B w' g s' ∧ Below B W w' := by
  refine (drenew W (fun k => B ≤ k ∧ k < W.heap.size) (fun k => k < B) g s l A c (Dy.bound h) (fun k hk => hk.2) hV (fun k hk hk2 => by have := hk2.1; omega) hc hF hl hok ha).mono ?_
  rintro e w ⟨rfl, h1, h2⟩
  rw [hs] at h1 ⊢
  exact ⟨rfl, h1.mono (fun k hk => hk.elim (fun h => h.1) (fun h => Nat.le_trans hB h)), h2.behind hB (fun k hk => hk.1)⟩
end Go.Proofs.Ytbkfdejcmimhgaa
