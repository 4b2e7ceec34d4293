/- The reference's diary: what it holds, and its small methods. -/
import Derived.Test.YtbkfdejcmimhgaaProg
import Derived.WalkKit
import Derived.WalkLawsBesides
import Derived.Outline
import Derived.LoopTactic
import Derived.Lib.Hide
import Derived.Deep.QuietTactic
import Derived.BigQuiet
import Derived.Deep.LoopGhost
import Derived.Deep.DeepCutAuto
import Derived.Deep.CutBlock
import Derived.Deep.RegionHeld3
import Derived.Deep.RegionWith
import Derived.Deep.WholeRow
import Derived.Laws.Rows
import Derived.Laws.Tables
import Derived.Laws.ResultCell
import Derived.StillTailTactics
import Derived.Deep.DeepMust
import Derived.IntWalk
import Derived.KernelRfl
import Derived.Test.YtbkfdejcmimhgaaVa
import Derived.RegionTactic
import Derived.Test.YtbkfdejcmimhgaaDiP
import Derived.Test.YtbkfdejcmimhgaaDiQa
import Derived.Test.YtbkfdejcmimhgaaDiT
namespace Go.Proofs.Ytbkfdejcmimhgaa
open Go.RowKit Go.Proofs.YtbkfdejcmimhgaaW.PrintWords Go.Proofs.Ytbkfdejcmimhgaa.PDiaryExact
set_option linter.unusedVariables false
set_option linter.unusedSimpArgs false
/-- Block g is the reference's diary in that state; what it leads to lies in S. -/
def Ry (W : World) (S : Nat → Prop) (g : Nat) (s : DSt) : Prop := S g ∧ ∃ A c, W.heap[g]? = some (.cells (dcells s (.slice A s.recs.length c)) 72 (0, 0)) ∧ Kd.N k39 39 W 0 (fun k => S k ∧ k ≠ g) (.slice A s.recs.length c) s.recs
/-- Nothing but S, and what is new, is another. -/
theorem Ry.lt {W : World} {S : Nat → Prop} {g : Nat} {s : DSt} (h : Ry W S g s) : g < W.heap.size := by
  obtain ⟨_, A, c, hg, _⟩ := h
  exact (Array.getElem?_eq_some_iff.1 hg).1
theorem Ry.ch {W W' : World} {S S2 : Nat → Prop} {g : Nat} {s : DSt} (h : Ry W S g s) (hc : Ch W W' S2) (hd : ∀ k, S k → ¬ S2 k) : Ry W' S g s := by
  have hlt := h.lt
  obtain ⟨hS, A, c, hg, hN⟩ := h
  exact ⟨hS, A, c, (hc.2.2 g hlt (hd g hS)).trans hg, Kd.N_kept hN hc.2 (fun k hk => hd k hk.1)⟩
theorem Ry.below {W W' : World} {S : Nat → Prop} {g : Nat} {s : DSt} (h : Ry W S g s) (hb : Below W.heap.size W W') : Ry W' S g s :=
  h.ch (S2 := fun _ => False) (Ch.of_below hb) (fun _ _ => id)
theorem Ry.set {W : World} {S : Nat → Prop} {g : Nat} {s s' : DSt} (h : Ry W S g s) (i : Nat) (v : Value) (hr : s'.recs = s.recs) (hc : ∀ rv, (dcells s rv).setIfInBounds i v = dcells s' rv) : Ry (W.setCell ⟨g, i, none⟩ v) S g s' := by
  obtain ⟨hS, A, c, hg, hN⟩ := h
  refine ⟨hS, A, c, ?_, ?_⟩
  · rw [heap_setCell_same _ _ _ _ _ _ hg, hc, hr]
  · rw [hr]
    exact Kd.N_far hN (fun k hk => hk.2) _
theorem Ry.bound {W : World} {S : Nat → Prop} {g : Nat} {s : DSt} (h : Ry W S g s) : Ry W (fun k => S k ∧ k < W.heap.size) g s := by
  have hlt := h.lt
  obtain ⟨hS, A, c, hg, hN⟩ := h
  exact ⟨⟨hS, hlt⟩, A, c, hg, Kd.N_mono (Kd.N_bound hN) (fun k hk => ⟨⟨hk.1.1, hk.2⟩, hk.1.2⟩)⟩
theorem Ry.mono {W : World} {S S' : Nat → Prop} {g : Nat} {s : DSt} (h : Ry W S g s) (hs : ∀ k, S k → S' k) : Ry W S' g s := by
  obtain ⟨hS, A, c, hg, hN⟩ := h
  exact ⟨hs _ hS, A, c, hg, Kd.N_mono hN (fun k hk => ⟨hs _ hk.1, hk.2⟩)⟩
theorem in_any (a : Int) (w : World) : Calls Try.prog 45 #[.int .i64 a, .int .i64 1, .int .i64 131072] w fun e w' => e = .returned (.bool (decide (1 ≤ a ∧ a ≤ 131072))) ∧ w = w' := by
  by_cases h1 : 1 ≤ a
  · by_cases h2 : a ≤ 131072
    · have e : decide (1 ≤ a ∧ a ≤ 131072) = true := decide_eq_true ⟨h1, h2⟩
      rw [e]
      clear e
      go_enter Try.func45, Try.ntmps45
      go_wp2
      go_ret
      exact ⟨rfl, rfl⟩
    · have e : decide (1 ≤ a ∧ a ≤ 131072) = false := decide_eq_false (fun h => h2 h.2)
      rw [e]
      clear e
      go_enter Try.func45, Try.ntmps45
      go_wp2
      go_ret
      exact ⟨rfl, rfl⟩
  · have e : decide (1 ≤ a ∧ a ≤ 131072) = false := decide_eq_false (fun h => h1 h.1)
    rw [e]
    clear e
    go_enter Try.func45, Try.ntmps45
    go_wp2
    go_ret
    exact ⟨rfl, rfl⟩
theorem rnew_no (n : Int) (hn : n < 1 ∨ 131072 < n) (w : World) : Calls Try.prog 29 #[.int .i64 n] w fun e w' => e = .returned (.tuple #[.pointer none, .int .i64 1]) ∧ w = w' := by
  have he : decide (1 ≤ n ∧ n ≤ 131072) = false := decide_eq_false (by omega)
  have HE := Aside0.mk he
  clear he
  go_enter Try.func29, Try.ntmps29
  go_wp2_with (first | (go_at_call 45; refine (in_any n w).mono ?_; rintro e w1 ⟨rfl, rfl⟩; rw [HE.out]))
  refine bodyPost_ret (results_tmp2 rfl _ _ _) rfl ?_
  exact ⟨rfl, rfl⟩
theorem rnew_yes (n : Int) (h1 : 1 ≤ n) (h2 : n ≤ 131072) (w : World) : Calls Try.prog 29 #[.int .i64 n] w fun e w' => e = .returned (.tuple #[.pointer (some ⟨w.heap.size, 0, none⟩), .int .i64 0]) ∧ Ry w' (fun k => k = w.heap.size) w.heap.size (DSt.new n) ∧ Below w.heap.size w w' := by
  have he : decide (1 ≤ n ∧ n ≤ 131072) = true := decide_eq_true ⟨h1, h2⟩
  have HE := Aside0.mk he
  clear he
  go_enter Try.func29, Try.ntmps29
  go_wp2_with (first | (go_at_call 45; refine (in_any n w).mono ?_; rintro e w1 ⟨rfl, rfl⟩; rw [HE.out]))
  refine bodyPost_ret (results_tmp2 rfl _ _ _) rfl ?_
  exact ⟨rfl, ⟨rfl, none, 0, heap_alloc_new _ _, Kd.N_nil _ _ _ _ _⟩, (Below.refl _ _).alloc (Nat.le_refl _) _⟩
theorem rstart (W : World) (S : Nat → Prop) (g : Nat) (s : DSt) (h : Ry W S g s) : Calls Try.prog 35 #[.pointer (some ⟨g, 0, none⟩)] W fun e w' => (∃ v, e = .returned v) ∧ Ry w' S g { s with off := false } ∧ Ch W w' S := by
  have HD := Aside0.mk h
  obtain ⟨hS, A, c, hg, hN⟩ := h
  have q : W.cell? ⟨g, 3, none⟩ = some (.bool s.off) := rc_cell hg 3 _ rfl
  have qf : W.frozen? ⟨g, 3, none⟩ = false := frozen_of_row _ _ _ _ _ hg
  clear hg hN
  go_enter Try.func35, Try.ntmps35
  go_wp2
  go_end0
  exact ⟨⟨_, rfl⟩, HD.out.set 3 _ rfl (fun _ => rfl), Ch.set _ hS _ _⟩
theorem rtrip (W : World) (S : Nat → Prop) (g : Nat) (s : DSt) (n k m : Int) (hm : m = max n 0) (h : Ry W S g s) : Calls Try.prog 34 #[.pointer (some ⟨g, 0, none⟩), .int .i64 n, .int .i64 k] W fun e w' => (∃ v, e = .returned v) ∧ Ry w' S g { s with armed := m, keep := k } ∧ Ch W w' S := by
  have HD := Aside0.mk h
  have hmax : max n 0 = m := hm.symm
  obtain ⟨hS, A, c, hg, hN⟩ := h
  have q5 : W.cell? ⟨g, 5, none⟩ = some (.int .i64 s.armed) := rc_cell hg 5 _ rfl
  have q6 : W.cell? ⟨g, 6, none⟩ = some (.int .i64 s.keep) := rc_cell hg 6 _ rfl
  have qf : ∀ j, W.frozen? ⟨g, j, none⟩ = false := fun j => frozen_of_row _ _ _ _ _ hg
  clear hg hN hmax
  by_cases h0 : 0 ≤ n
  · obtain rfl : m = n := by omega
    clear hm
    go_enter Try.func34, Try.ntmps34
    go_wp2
    go_end0
    exact ⟨⟨_, rfl⟩, (HD.out.set (s' := { s with armed := m }) 5 (.int .i64 m) rfl (fun _ => rfl)).set (s' := { s with armed := m, keep := k }) 6 (.int .i64 k) rfl (fun _ => rfl), (Ch.set _ hS _ _).trans (Ch.set _ hS _ _) (fun k hk => .inl hk)⟩
  · obtain rfl : m = 0 := by omega
    have h1 : n < 0 := by omega
    clear hm h0
    go_enter Try.func34, Try.ntmps34
    go_wp2
    go_end0
    exact ⟨⟨_, rfl⟩, (HD.out.set (s' := { s with armed := 0 }) 5 (.int .i64 0) rfl (fun _ => rfl)).set (s' := { s with armed := 0, keep := k }) 6 (.int .i64 k) rfl (fun _ => rfl), (Ch.set _ hS _ _).trans (Ch.set _ hS _ _) (fun k hk => .inl hk)⟩
theorem rtrips (W : World) (S : Nat → Prop) (g : Nat) (s : DSt) (h : Ry W S g s) (h0 : 0 ≤ s.armed) (h1 : s.armed ≤ 9223372036854775807) : Calls Try.prog 48 #[.pointer (some ⟨g, 0, none⟩)] W fun e w' => e = .returned (.bool s.hit) ∧ Ry w' S g s.tick ∧ Ch W w' S := by
  have HD := Aside0.mk h
  obtain ⟨hS, A, c, hg, hN⟩ := h
  have q5 : W.cell? ⟨g, 5, none⟩ = some (.int .i64 s.armed) := rc_cell hg 5 _ rfl
  have qf : ∀ j, W.frozen? ⟨g, j, none⟩ = false := fun j => frozen_of_row _ _ _ _ _ hg
  have q6 : ∀ v, (W.setCell ⟨g, 5, none⟩ v).cell? ⟨g, 5, none⟩ = some v := fun v => rc_cell (heap_setCell_same W g 5 _ _ v hg) 5 _ rfl
  clear hg hN
  by_cases hz : s.armed = 0
  · have e1 : s.tick = s := by unfold DSt.tick; rw [if_pos hz]
    have e2 : s.hit = false := by unfold DSt.hit; rw [hz]; rfl
    rw [e1, e2]
    clear e1 e2
    rw [hz] at q5
    go_enter Try.func48, Try.ntmps48
    go_wp2
    go_ret
    exact ⟨rfl, HD.out, Ch.refl _ _⟩
  · have e1 : s.tick = { s with armed := s.armed - 1 } := by unfold DSt.tick; rw [if_neg hz]
    have HE1 := Aside0.mk e1
    have hz' : 0 < s.armed := by omega
    have e2 : (s.armed - 1 == 0) = s.hit := by
      unfold DSt.hit
      rw [Bool.eq_iff_iff, beq_iff_eq, decide_eq_true_eq]
      omega
    clear e1 hz
    go_enter Try.func48, Try.ntmps48
    go_wp2
    go_ret
    exact ⟨by first | rfl | (rw [← e2]; rfl), by rw [HE1.out]; exact HD.out.set 5 _ rfl (fun _ => rfl), Ch.set _ hS _ _⟩
theorem rroom_at (x : S39) (v4 v5 v10 v14 : Value) (rm : Int) (W : World) (hr : rm = room x) (hK : k39.K W x (recs15 x v4 v5 v10 v14).toList) (hL : Lite x) (hh : x.f1.f4.size ≤ 1000000) : Calls Try.prog 47 #[.agg (recs15 x v4 v5 v10 v14)] W fun e w' => e = .returned (.int .i64 rm) ∧ Below W.heap.size W w' := by
  obtain ⟨A4, c4, A5, c5, A10, c10, A14, c14, he, l4, g4, l5, g5, l10, g10, l14, g14⟩ := k39_open hK
  simp only [recs15, List.cons.injEq, and_true, true_and] at he
  obtain ⟨rfl, rfl, rfl, rfl⟩ := he
  clear g4 g5 g10 g14
  obtain ⟨b1, b2, b3, b4⟩ := hL
  have hrm : 24 + (x.f7.length : Int) + x.f1.f2.length + x.f1.f4.size + 80 * (1 + x.f1.f1.length) + 8 * x.f3.length = rm := by rw [hr]; unfold room; omega
  have HRM := Aside0.mk hrm
  clear hrm hr hK
  go_enter Try.func47, Try.ntmps47
  go_wp2
  go_ret
  exact ⟨by rw [← HRM.out]; rfl, (Below.refl _ _).alloc (Nat.le_refl _) _⟩
set_option maxRecDepth 100000 in
set_option maxHeartbeats 2000000 in
theorem rrooms_at0 (W : World) (A : Option Addr) (c : Nat) (l : List S39) (hC : k39.C W A l.length l) (hc : l.length ≤ c) (hF : Fine l) (hl : l.length ≤ 1000000) : Calls Try.prog 49 #[.slice A l.length c] W fun e w' => e = .returned (.int .i64 (roomsOf l)) ∧ Below W.heap.size W w' := by
  have HC := Aside0.mk hC
  have HF := Aside0.mk hF
  clear hC hF
  go_enter Try.func49, Try.ntmps49
  go_wp2_with (fail)
  go_loopg [3, 4] l.length (fun g v3 v4 wr => ∃ (i : Nat), i ≤ l.length ∧ g + i = l.length ∧ v4 = .int .i64 i ∧ v3 = .int .i64 (roomsOf (l.take i)) ∧ Aside0 (Below W.heap.size W wr))
  case atStart => exact ⟨0, by omega, by omega, rfl, rfl, ⟨Below.refl _ _⟩⟩
  case round =>
  obtain ⟨i, hi, hg, rfl, rfl, HW⟩ := hrel
  by_cases hlt : i < l.length
  · have hlt' : (i : Int) < (l.length : Int) := by omega
    obtain ⟨ad, A4, c4, A5, c5, A10, c10, A14, c14, rfl, q0, q1, q2, q3, q4, q5, q6, q7, q8, q9, q10, q11, q12, q13, q14, l4, g4, l5, g5, l10, g10, l14, g14⟩ := at_T39 (Kd.C_below HC.out HW.out) i (by omega) (by omega)
    have ex : rd_T39 l i = l.getD i z39 := rfl
    have hxi : l[i]? = some (rd_T39 l i) := by rw [ex]; simp [List.getD_eq_getElem?_getD, hlt]
    have hfx : Lite (rd_T39 l i) ∧ (rd_T39 l i).f1.f4.size ≤ 1000000 := by rw [ex]; exact HF.out _ (by simp [List.getD_eq_getElem?_getD, hlt])
    clear ex
    simp only [Int.toNat_natCast] at q0 q1 q2 q3 q4 q5 q6 q7 q8 q9 q10 q11 q12 q13 q14
    generalize rd_T39 l i = x at *
    have hKx := k39_mk wr x l4 g4 l5 g5 l10 g10 l14 g14
    have HKX := Aside0.mk hKx
    have HFX := Aside0.mk hfx
    clear hKx g4 g5 g10 g14 l4 l5 l10 l14
    have hb0 := roomsOf_nonneg (l.take i)
    have hb1 := rooms_le (l.take i) (HF.out.take i)
    have hb2 : ((l.take i).length : Int) ≤ 1000000 := by rw [List.length_take]; omega
    have hb3 := room_le x hfx.1 hfx.2
    have hb4 := room_pos x
    obtain ⟨sm, hsm⟩ : ∃ sm, sm = roomsOf (l.take i) := ⟨_, rfl⟩
    obtain ⟨rm, hrm⟩ : ∃ rm, rm = room x := ⟨_, rfl⟩
    have HNX := Aside0.mk (rooms_next l i x hxi)
    rw [← hsm, ← hrm] at HNX
    have HRM := Aside0.mk hrm
    rw [← hsm] at hb0 hb1 ⊢
    rw [← hrm] at hb3 hb4
    have hb5 : sm ≤ 100000000000000 := by omega
    clear hb1 hb2 hsm hrm hfx hxi
    go_wp2_with (first | (go_at_call 47; refine (rroom_at x (.slice A4 x.f1.f1.length c4) (.slice A5 x.f1.f2.length c5) (.slice A10 x.f3.length c10) (.slice A14 x.f7.length c14) rm wr HRM.out HKX.out HFX.out.1 HFX.out.2).mono ?_; rintro e w4 ⟨rfl, h1⟩; have G4 := Aside0.mk (h1.mono HW.out.size); clear h1 q0 q1 q2 q3 q4 q5 q6 q7 q8 q9 q10 q11 q12 q13 q14))
    go_roundg (gk - 1)
    case measure => omega
    case rel => exact ⟨i + 1, by omega, by omega, by go_num, by rw [HNX.out], ⟨HW.out.trans G4.out⟩⟩
  have hlt' : ¬ (i : Int) < (l.length : Int) := by omega
  obtain rfl : i = l.length := by omega
  rw [List.take_length]
  clear hlt
  go_wp2_with (fail)
  go_ret
  exact ⟨rfl, HW.out⟩
theorem rrooms_at (W : World) (A : Option Addr) (c : Nat) (l : List S39) (us : Int) (hu : us = roomsOf l) (hC : k39.C W A l.length l) (hc : l.length ≤ c) (hF : Fine l) (hl : l.length ≤ 1000000) : Calls Try.prog 49 #[.slice A l.length c] W fun e w' => e = .returned (.int .i64 us) ∧ Below W.heap.size W w' := by
  subst hu
  exact rrooms_at0 W A c l hC hc hF hl
theorem rused_at (W : World) (S : Nat → Prop) (g : Nat) (s : DSt) (us : Int) (hu : us = roomsOf s.recs) (h : Ry W S g s) (hF : Fine s.recs) (hl : s.recs.length ≤ 1000000) : Calls Try.prog 46 #[.pointer (some ⟨g, 0, none⟩)] W fun e w' => e = .returned (.int .i64 us) ∧ Below W.heap.size W w' := by
  obtain ⟨hS, A, c, hg, hN⟩ := h
  have q : W.cell? ⟨g, 1, none⟩ = some (.slice A s.recs.length c) := rc_cell hg 1 _ rfl
  have HR := Aside0.mk (Kd.N_reads' hN)
  have HU := Aside0.mk hu
  clear hg hN hu
  go_enter Try.func46, Try.ntmps46
  go_wp2_with (first | (go_at_call 49; refine (rrooms_at W A c s.recs us HU.out HR.out.2.2 HR.out.2.1 hF hl).mono ?_; rintro e w1 ⟨rfl, h1⟩; have H1 := Aside0.mk h1; clear h1))
  go_ret
  exact ⟨rfl, H1.out⟩
theorem rread_no (W : World) (S : Nat → Prop) (g : Nat) (s : DSt) (h : Ry W S g s) (hoff : s.off = true) : Calls Try.prog 50 #[.pointer (some ⟨g, 0, none⟩)] W fun e w' => e = .returned (.tuple #[.slice none 0 0, .int .i64 7]) ∧ W = w' := by
  obtain ⟨_, A, c, hg, hN⟩ := h
  have q3 : W.cell? ⟨g, 3, none⟩ = some (.bool true) := by rw [← hoff]; exact rc_cell hg 3 _ rfl
  clear hg hN
  go_enter Try.func50, Try.ntmps50
  go_wp2
  refine bodyPost_ret (results_tmp2 rfl _ _ _) rfl ?_
  exact ⟨rfl, rfl⟩
theorem rread_yes (W : World) (S : Nat → Prop) (g : Nat) (s : DSt) (h : Ry W S g s) (hoff : s.off = false) (hF : Fine s.recs) (hl : s.recs.length ≤ 1000000) : Calls Try.prog 50 #[.pointer (some ⟨g, 0, none⟩)] W fun e w' => ∃ v, e = .returned (.tuple #[v, .int .i64 0]) ∧ Kd.N k39 39 w' W.heap.size (fun k => W.heap.size ≤ k) v s.recs ∧ Below W.heap.size W w' := by
  obtain ⟨_, A, c, hg, hN⟩ := h
  have q3 : W.cell? ⟨g, 3, none⟩ = some (.bool false) := by rw [← hoff]; exact rc_cell hg 3 _ rfl
  have q1 : W.cell? ⟨g, 1, none⟩ = some (.slice A s.recs.length c) := rc_cell hg 1 _ rfl
  have HR := Aside0.mk (Kd.N_reads' hN)
  have HF := Aside0.mk hF
  clear hg hN hF
  go_enter Try.func50, Try.ntmps50
  go_wp2_with (first | (go_at_call 27; refine (rtwins_any A c s.recs W HR.out.2.2 HF.out.lites hl).mono ?_; rintro e w1 ⟨v, rfl, h1, h2⟩; have H1 := Aside0.mk h1; have H2 := Aside0.mk h2; clear h1 h2))
  refine bodyPost_ret (results_tmp2 rfl _ _ _) rfl ?_
  exact ⟨_, rfl, H1.out, H2.out⟩
end Go.Proofs.Ytbkfdejcmimhgaa
