/- A diary's Sync and Read. -/
import Derived.Test.YtbkfdejcmimhgaaProg
import Derived.WalkKit
import Derived.WalkLawsBesides
import Derived.Outline
import Derived.LoopTactic
import Derived.Lib.Hide
import Derived.Deep.QuietTactic
import Derived.BigQuiet
import Derived.Deep.LoopGhost
import Derived.Deep.DeepCutAuto
import Derived.Deep.CutBlock
import Derived.Deep.RegionHeld3
import Derived.Deep.RegionWith
import Derived.Deep.WholeRow
import Derived.Laws.Rows
import Derived.Laws.Tables
import Derived.Laws.ResultCell
import Derived.StillTailTactics
import Derived.Deep.DeepMust
import Derived.IntWalk
import Derived.KernelRfl
import Derived.Test.YtbkfdejcmimhgaaVa
import Derived.RegionTactic
import Derived.Test.YtbkfdejcmimhgaaDiE
namespace Go.Proofs.Ytbkfdejcmimhgaa
open Go.RowKit Go.Proofs.YtbkfdejcmimhgaaW.PrintWords Go.Proofs.Ytbkfdejcmimhgaa.PDiaryExact
set_option linter.unusedVariables false
set_option linter.unusedSimpArgs false
def DSt.Armed (s : DSt) : Prop := 0 ≤ s.armed ∧ s.armed ≤ 9223372036854775807
theorem DSt.tick_eq (s : DSt) : s.tick.recs = s.recs ∧ s.tick.safe = s.safe ∧ s.tick.off = s.off ∧ s.tick.life = s.life ∧ s.tick.keep = s.keep ∧ s.tick.kept = s.kept ∧ s.tick.limit = s.limit := by
  unfold DSt.tick
  by_cases h : s.armed = 0
  · rw [if_pos h]; exact ⟨rfl, rfl, rfl, rfl, rfl, rfl, rfl⟩
  · rw [if_neg h]; exact ⟨rfl, rfl, rfl, rfl, rfl, rfl, rfl⟩
theorem DSt.Ok.tick {s : DSt} (h : s.Ok) : s.tick.Ok := by
  obtain ⟨e1, e2, e3, e4, e5, e6, e7⟩ := s.tick_eq
  unfold DSt.Ok at *
  rw [e1, e2, e4, e6]
  exact h
def DSt.sync (s : DSt) : Int × DSt := if s.off = true then (7, s) else if s.hit = true then (7, s.tick.crash s.keep) else (0, { s.tick with safe := s.recs.length, kept := 0 })
set_option maxRecDepth 100000 in
set_option maxHeartbeats 1000000 in
theorem dsync (W : World) (S : Nat → Prop) (g : Nat) (s : DSt) (h : Dy W S g s) (hok : s.Ok) (ha : s.Armed) : Calls Try.prog 15 #[.pointer (some ⟨g, 0, none⟩)] W fun e w' => e = .returned (.int .i64 s.sync.1) ∧ Dy w' S g s.sync.2 ∧ Ch W w' S := by
  have HD := Aside0.mk h
  have hS := h.1
  obtain ⟨_, A, c, hg, hN⟩ := h
  by_cases hoff : s.off = true
  · have e1 : s.sync = (7, s) := by unfold DSt.sync; rw [if_pos hoff]
    rw [e1]
    have q3 : W.cell? ⟨g, 3, none⟩ = some (.bool true) := by rw [← hoff]; exact rc_cell hg 3 _ rfl
    clear hg hN e1
    go_enter Try.func15, Try.ntmps15
    go_wp2
    go_ret
    exact ⟨rfl, HD.out, Ch.refl _ _⟩
  · have hoff' : s.off = false := by simpa using hoff
    have q3 : W.cell? ⟨g, 3, none⟩ = some (.bool false) := by rw [← hoff']; exact rc_cell hg 3 _ rfl
    clear hg hN
    by_cases hhit : s.hit = true
    · have e1 : s.sync = (7, s.tick.crash s.keep) := by unfold DSt.sync; rw [if_neg hoff, if_pos hhit]
      have HE1 := Aside0.mk e1
      rw [e1]
      have HH := Aside0.mk hhit
      clear e1 hoff hoff' hhit
      go_enter Try.func15, Try.ntmps15
      go_wp2_with (first | (go_at_call 40; refine (dtrips W S g s HD.out ha.1 ha.2).mono ?_; rintro e w1 ⟨rfl, h1, h2⟩; rw [HH.out]; have hk6 : w1.cell? ⟨g, 6, none⟩ = some (.int .i64 s.keep) := (by obtain ⟨_, A1, c1, hg1, _⟩ := h1; rw [← s.tick_eq.2.2.2.2.1]; exact rc_cell hg1 6 _ rfl); have H1 := Aside0.mk h1; have H2 := Aside0.mk h2; clear h1 h2) | (go_at_call 22; refine (dcrash w1 S g s.tick s.keep H1.out hok.tick).mono ?_; rintro e w2 ⟨⟨v, rfl⟩, h1, h2⟩; have H3 := Aside0.mk h1; have H4 := Aside0.mk h2; clear h1 h2))
      go_ret
      exact ⟨rfl, H3.out, H2.out.trans H4.out (fun k hk => .inl hk)⟩
    · have hh : s.hit = false := by simpa using hhit
      have e1 : s.sync = (0, { s.tick with safe := s.recs.length, kept := 0 }) := by unfold DSt.sync; rw [if_neg hoff, if_neg hhit]
      rw [e1]
      have HH := Aside0.mk hh
      clear e1 hoff hoff' hhit hh
      go_enter Try.func15, Try.ntmps15
      go_wp2_with (first | (go_at_call 40; refine (dtrips W S g s HD.out ha.1 ha.2).mono ?_; rintro e w1 ⟨rfl, h1, h2⟩; rw [HH.out]; obtain ⟨_, A1, c1, hg1, _⟩ := id h1; have k1 : w1.cell? ⟨g, 1, none⟩ = some (.slice A1 s.recs.length c1) := (by rw [← s.tick_eq.1]; exact rc_cell hg1 1 _ rfl); have k2 : w1.cell? ⟨g, 2, none⟩ = some (.int .i64 s.tick.safe) := rc_cell hg1 2 _ rfl; have k7 : w1.cell? ⟨g, 7, none⟩ = some (.int .i64 s.tick.kept) := rc_cell hg1 7 _ rfl; have kf : ∀ j, w1.frozen? ⟨g, j, none⟩ = false := (fun j => frozen_of_row _ _ _ _ _ hg1); have H1 := Aside0.mk h1; have H2 := Aside0.mk h2; clear h1 h2 hg1))
      go_ret
      exact ⟨rfl, (H1.out.set (s' := { s.tick with safe := s.recs.length }) 2 (.int .i64 s.recs.length) rfl (fun _ => rfl)).set (s' := { s.tick with safe := s.recs.length, kept := 0 }) 7 (.int .i64 0) rfl (fun _ => rfl), (H2.out.trans (Ch.set _ hS _ _) (fun k hk => .inl hk)).trans (Ch.set _ hS _ _) (fun k hk => .inl hk)⟩
theorem dread_no (W : World) (S : Nat → Prop) (g : Nat) (s : DSt) (h : Dy W S g s) (hoff : s.off = true) : Calls Try.prog 17 #[.pointer (some ⟨g, 0, none⟩)] W fun e w' => e = .returned (.tuple #[.slice none 0 0, .int .i64 7]) ∧ W = w' := by
  obtain ⟨_, A, c, hg, hN⟩ := h
  have q3 : W.cell? ⟨g, 3, none⟩ = some (.bool true) := by rw [← hoff]; exact rc_cell hg 3 _ rfl
  clear hg hN
  go_enter Try.func17, Try.ntmps17
  go_wp2
  refine bodyPost_ret (results_tmp2 rfl _ _ _) rfl ?_
  exact ⟨rfl, rfl⟩
theorem dread_yes (W : World) (S : Nat → Prop) (g : Nat) (s : DSt) (h : Dy W S g s) (hoff : s.off = false) (hF : Fine s.recs) (hl : s.recs.length ≤ 1000000) : Calls Try.prog 17 #[.pointer (some ⟨g, 0, none⟩)] W fun e w' => ∃ v, e = .returned (.tuple #[v, .int .i64 0]) ∧ Kd.N k39 39 w' W.heap.size (fun k => W.heap.size ≤ k) v s.recs ∧ Below W.heap.size W w' := by
  obtain ⟨_, A, c, hg, hN⟩ := h
  have q3 : W.cell? ⟨g, 3, none⟩ = some (.bool false) := by rw [← hoff]; exact rc_cell hg 3 _ rfl
  have q1 : W.cell? ⟨g, 1, none⟩ = some (.slice A s.recs.length c) := rc_cell hg 1 _ rfl
  have HR := Aside0.mk (Kd.N_reads' hN)
  have HF := Aside0.mk hF
  clear hg hN hF
  go_enter Try.func17, Try.ntmps17
  go_wp2_with (first | (go_at_call 41; refine (dtwins_any A c s.recs W HR.out.2.2 HF.out.lites hl).mono ?_; rintro e w1 ⟨v, rfl, h1, h2⟩; have H1 := Aside0.mk h1; have H2 := Aside0.mk h2; clear h1 h2))
  refine bodyPost_ret (results_tmp2 rfl _ _ _) rfl ?_
  exact ⟨_, rfl, H1.out, H2.out⟩
end Go.Proofs.Ytbkfdejcmimhgaa
