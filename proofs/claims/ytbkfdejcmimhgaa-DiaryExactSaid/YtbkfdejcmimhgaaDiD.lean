/- A diary: what it holds, and its small methods. -/
import Derived.Test.YtbkfdejcmimhgaaProg
import Derived.WalkKit
import Derived.WalkLawsBesides
import Derived.Outline
import Derived.LoopTactic
import Derived.Lib.Hide
import Derived.Deep.QuietTactic
import Derived.BigQuiet
import Derived.Deep.LoopGhost
import Derived.Deep.DeepCutAuto
import Derived.Deep.CutBlock
import Derived.Deep.RegionHeld3
import Derived.Deep.RegionWith
import Derived.Deep.WholeRow
import Derived.Laws.Rows
import Derived.Laws.Tables
import Derived.Laws.ResultCell
import Derived.StillTailTactics
import Derived.Deep.DeepMust
import Derived.IntWalk
import Derived.KernelRfl
import Derived.Test.YtbkfdejcmimhgaaVa
import Derived.RegionTactic
import Derived.Test.YtbkfdejcmimhgaaDiR
namespace Go.Proofs.Ytbkfdejcmimhgaa
open Go.RowKit Go.Proofs.YtbkfdejcmimhgaaW.PrintWords Go.Proofs.Ytbkfdejcmimhgaa.PDiaryExact
set_option linter.unusedVariables false
set_option linter.unusedSimpArgs false
/-- A diary's state. -/
structure DSt where
  limit : Int
  recs : List S39
  safe : Int
  off : Bool
  life : Int
  armed : Int
  keep : Int
  kept : Int
def dcells (s : DSt) (rv : Value) : Array Value := #[.int .i64 s.limit, rv, .int .i64 s.safe, .bool s.off, .int .i64 s.life, .int .i64 s.armed, .int .i64 s.keep, .int .i64 s.kept]
/-- Block g is a diary in that state; what it leads to lies in S. -/
def Dy (W : World) (S : Nat → Prop) (g : Nat) (s : DSt) : Prop := S g ∧ ∃ A c, W.heap[g]? = some (.cells (dcells s (.slice A s.recs.length c)) 66 (0, 0)) ∧ Kd.N k39 39 W 0 (fun k => S k ∧ k ≠ g) (.slice A s.recs.length c) s.recs
/-- Nothing but S, and what is new, is another. -/
def Ch (W W' : World) (S : Nat → Prop) : Prop := Below 0 W W' ∧ Kept W W' S
theorem Ch.refl (W : World) (S : Nat → Prop) : Ch W W S := ⟨Below.refl _ _, Kept.refl _ _⟩
theorem Ch.of_below {W W' : World} {S : Nat → Prop} (h : Below W.heap.size W W') : Ch W W' S := ⟨h.mono (Nat.zero_le _), Kept.of_below h S⟩
theorem Ch.trans {W W1 W2 : World} {S S1 : Nat → Prop} (h : Ch W W1 S) (k : Ch W1 W2 S1) (hs : ∀ k, S1 k → S k ∨ W.heap.size ≤ k) : Ch W W2 S := ⟨h.1.trans k.1, h.2.then_ k.2 hs⟩
theorem Ch.below {W W' : World} {S : Nat → Prop} (h : Ch W W' S) (B : Nat) (hB : B ≤ W.heap.size) (hd : ∀ k, k < B → ¬ S k) : Below B W W' := ⟨h.1.os, h.1.tape, h.1.output, h.1.size, fun k hk => h.2.2 k (by omega) (hd k hk)⟩
theorem Ch.set (W : World) {S : Nat → Prop} {g : Nat} (hS : S g) (i : Nat) (v : Value) : Ch W (W.setCell ⟨g, i, none⟩ v) S :=
  ⟨(Below.refl _ _).setCell (p := ⟨g, i, none⟩) (Nat.zero_le _) _, by simp [World.setCell], fun k hk hn => heap_setCell_other _ _ _ _ (fun e => hn (by rw [e]; exact hS))⟩
theorem Dy.lt {W : World} {S : Nat → Prop} {g : Nat} {s : DSt} (h : Dy W S g s) : g < W.heap.size := by
  obtain ⟨_, A, c, hg, _⟩ := h
  exact (Array.getElem?_eq_some_iff.1 hg).1
theorem Dy.ch {W W' : World} {S S2 : Nat → Prop} {g : Nat} {s : DSt} (h : Dy W S g s) (hc : Ch W W' S2) (hd : ∀ k, S k → ¬ S2 k) : Dy W' S g s := by
  have hlt := h.lt
  obtain ⟨hS, A, c, hg, hN⟩ := h
  exact ⟨hS, A, c, (hc.2.2 g hlt (hd g hS)).trans hg, Kd.N_kept hN hc.2 (fun k hk => hd k hk.1)⟩
theorem Dy.below {W W' : World} {S : Nat → Prop} {g : Nat} {s : DSt} (h : Dy W S g s) (hb : Below W.heap.size W W') : Dy W' S g s :=
  h.ch (S2 := fun _ => False) (Ch.of_below hb) (fun _ _ => id)
theorem Dy.set {W : World} {S : Nat → Prop} {g : Nat} {s s' : DSt} (h : Dy W S g s) (i : Nat) (v : Value) (hr : s'.recs = s.recs) (hc : ∀ rv, (dcells s rv).setIfInBounds i v = dcells s' rv) : Dy (W.setCell ⟨g, i, none⟩ v) S g s' := by
  obtain ⟨hS, A, c, hg, hN⟩ := h
  refine ⟨hS, A, c, ?_, ?_⟩
  · rw [heap_setCell_same _ _ _ _ _ _ hg, hc, hr]
  · rw [hr]
    exact Kd.N_far hN (fun k hk => hk.2) _
theorem Dy.bound {W : World} {S : Nat → Prop} {g : Nat} {s : DSt} (h : Dy W S g s) : Dy W (fun k => S k ∧ k < W.heap.size) g s := by
  have hlt := h.lt
  obtain ⟨hS, A, c, hg, hN⟩ := h
  exact ⟨⟨hS, hlt⟩, A, c, hg, Kd.N_mono (Kd.N_bound hN) (fun k hk => ⟨⟨hk.1.1, hk.2⟩, hk.1.2⟩)⟩
theorem Dy.mono {W : World} {S S' : Nat → Prop} {g : Nat} {s : DSt} (h : Dy W S g s) (hs : ∀ k, S k → S' k) : Dy W S' g s := by
  obtain ⟨hS, A, c, hg, hN⟩ := h
  exact ⟨hs _ hS, A, c, hg, Kd.N_mono hN (fun k hk => ⟨hs _ hk.1, hk.2⟩)⟩
def DSt.new (n : Int) : DSt := ⟨n, [], 0, false, 0, 0, 0, 0⟩
theorem dnew_no (n : Int) (hn : n < 1 ∨ 131072 < n) (w : World) : Calls Try.prog 11 #[.int .i64 n] w fun e w' => e = .returned (.tuple #[.pointer none, .int .i64 1]) ∧ w = w' := by
  by_cases h1 : n < 1
  · go_enter Try.func11, Try.ntmps11
    go_wp2
    refine bodyPost_ret (results_tmp2 rfl _ _ _) rfl ?_
    exact ⟨rfl, rfl⟩
  · have h2 : 131072 < n := by omega
    go_enter Try.func11, Try.ntmps11
    go_wp2
    refine bodyPost_ret (results_tmp2 rfl _ _ _) rfl ?_
    exact ⟨rfl, rfl⟩
theorem dnew_yes (n : Int) (h1 : 1 ≤ n) (h2 : n ≤ 131072) (w : World) : Calls Try.prog 11 #[.int .i64 n] w fun e w' => e = .returned (.tuple #[.pointer (some ⟨w.heap.size, 0, none⟩), .int .i64 0]) ∧ Dy w' (fun k => k = w.heap.size) w.heap.size (DSt.new n) ∧ Below w.heap.size w w' := by
  have h1' : ¬ n < 1 := by omega
  have h2' : ¬ 131072 < n := by omega
  go_enter Try.func11, Try.ntmps11
  go_wp2
  refine bodyPost_ret (results_tmp2 rfl _ _ _) rfl ?_
  exact ⟨rfl, ⟨rfl, none, 0, heap_alloc_new _ _, Kd.N_nil _ _ _ _ _⟩, (Below.refl _ _).alloc (Nat.le_refl _) _⟩
theorem dlife (W : World) (S : Nat → Prop) (g : Nat) (s : DSt) (h : Dy W S g s) : Calls Try.prog 18 #[.pointer (some ⟨g, 0, none⟩)] W fun e w' => e = .returned (.int .i64 s.life) ∧ W = w' := by
  obtain ⟨hS, A, c, hg, hN⟩ := h
  have q : W.cell? ⟨g, 4, none⟩ = some (.int .i64 s.life) := rc_cell hg 4 _ rfl
  clear hg hN
  go_enter Try.func18, Try.ntmps18
  go_wp2
  go_ret
  exact ⟨rfl, rfl⟩
theorem dkept (W : World) (S : Nat → Prop) (g : Nat) (s : DSt) (h : Dy W S g s) : Calls Try.prog 20 #[.pointer (some ⟨g, 0, none⟩)] W fun e w' => e = .returned (.int .i64 s.kept) ∧ W = w' := by
  obtain ⟨hS, A, c, hg, hN⟩ := h
  have q : W.cell? ⟨g, 7, none⟩ = some (.int .i64 s.kept) := rc_cell hg 7 _ rfl
  clear hg hN
  go_enter Try.func20, Try.ntmps20
  go_wp2
  go_ret
  exact ⟨rfl, rfl⟩
theorem dlen (W : World) (S : Nat → Prop) (g : Nat) (s : DSt) (h : Dy W S g s) : Calls Try.prog 23 #[.pointer (some ⟨g, 0, none⟩)] W fun e w' => e = .returned (.int .i64 s.recs.length) ∧ W = w' := by
  obtain ⟨hS, A, c, hg, hN⟩ := h
  have q : W.cell? ⟨g, 1, none⟩ = some (.slice A s.recs.length c) := rc_cell hg 1 _ rfl
  clear hg hN
  go_enter Try.func23, Try.ntmps23
  go_wp2
  go_ret
  exact ⟨rfl, rfl⟩
theorem doff (W : World) (S : Nat → Prop) (g : Nat) (s : DSt) (h : Dy W S g s) : Calls Try.prog 24 #[.pointer (some ⟨g, 0, none⟩)] W fun e w' => e = .returned (.bool s.off) ∧ W = w' := by
  obtain ⟨hS, A, c, hg, hN⟩ := h
  have q : W.cell? ⟨g, 3, none⟩ = some (.bool s.off) := rc_cell hg 3 _ rfl
  clear hg hN
  go_enter Try.func24, Try.ntmps24
  go_wp2
  go_ret
  exact ⟨rfl, rfl⟩
theorem dsafe (W : World) (S : Nat → Prop) (g : Nat) (s : DSt) (h : Dy W S g s) : Calls Try.prog 25 #[.pointer (some ⟨g, 0, none⟩)] W fun e w' => e = .returned (.int .i64 s.safe) ∧ W = w' := by
  obtain ⟨hS, A, c, hg, hN⟩ := h
  have q : W.cell? ⟨g, 2, none⟩ = some (.int .i64 s.safe) := rc_cell hg 2 _ rfl
  clear hg hN
  go_enter Try.func25, Try.ntmps25
  go_wp2
  go_ret
  exact ⟨rfl, rfl⟩
theorem dused (W : World) (S : Nat → Prop) (g : Nat) (s : DSt) (h : Dy W S g s) (hF : Fine s.recs) (hl : s.recs.length ≤ 1000000) : Calls Try.prog 28 #[.pointer (some ⟨g, 0, none⟩)] W fun e w' => e = .returned (.int .i64 (roomsOf s.recs)) ∧ Below W.heap.size W w' := by
  obtain ⟨hS, A, c, hg, hN⟩ := h
  have q : W.cell? ⟨g, 1, none⟩ = some (.slice A s.recs.length c) := rc_cell hg 1 _ rfl
  have HR := Aside0.mk (Kd.N_reads' hN)
  have HF := Aside0.mk (rooms_f s.recs hF hl)
  clear hg hN
  go_enter Try.func28, Try.ntmps28
  go_wp2_with (first | (go_at_call 43; refine (diary_rooms.calls (s.recs.length + 1) A c s.recs (roomsOf s.recs) W HR.out.2.2 HR.out.2.1 HF.out).mono ?_; rintro e w1 ⟨rfl, h1⟩; have H1 := Aside0.mk h1; clear h1))
  go_ret
  exact ⟨rfl, H1.out⟩
theorem dstart (W : World) (S : Nat → Prop) (g : Nat) (s : DSt) (h : Dy W S g s) : Calls Try.prog 16 #[.pointer (some ⟨g, 0, none⟩)] W fun e w' => (∃ v, e = .returned v) ∧ Dy w' S g { s with off := false } ∧ Ch W w' S := by
  have HD := Aside0.mk h
  obtain ⟨hS, A, c, hg, hN⟩ := h
  have q : W.cell? ⟨g, 3, none⟩ = some (.bool s.off) := rc_cell hg 3 _ rfl
  have qf : W.frozen? ⟨g, 3, none⟩ = false := frozen_of_row _ _ _ _ _ hg
  clear hg hN
  go_enter Try.func16, Try.ntmps16
  go_wp2
  go_end0
  exact ⟨⟨_, rfl⟩, HD.out.set 3 _ rfl (fun _ => rfl), Ch.set _ hS _ _⟩
theorem dtrip (W : World) (S : Nat → Prop) (g : Nat) (s : DSt) (n k m : Int) (hm : m = max n 0) (h : Dy W S g s) : Calls Try.prog 12 #[.pointer (some ⟨g, 0, none⟩), .int .i64 n, .int .i64 k] W fun e w' => (∃ v, e = .returned v) ∧ Dy w' S g { s with armed := m, keep := k } ∧ Ch W w' S := by
  have HD := Aside0.mk h
  have hmax : max n 0 = m := hm.symm
  obtain ⟨hS, A, c, hg, hN⟩ := h
  have q5 : W.cell? ⟨g, 5, none⟩ = some (.int .i64 s.armed) := rc_cell hg 5 _ rfl
  have q6 : W.cell? ⟨g, 6, none⟩ = some (.int .i64 s.keep) := rc_cell hg 6 _ rfl
  have qf : ∀ j, W.frozen? ⟨g, j, none⟩ = false := fun j => frozen_of_row _ _ _ _ _ hg
  clear hg hN hmax
  by_cases h0 : 0 ≤ n
  · obtain rfl : m = n := by omega
    clear hm
    go_enter Try.func12, Try.ntmps12
    go_wp2
    go_end0
    exact ⟨⟨_, rfl⟩, (HD.out.set (s' := { s with armed := m }) 5 (.int .i64 m) rfl (fun _ => rfl)).set (s' := { s with armed := m, keep := k }) 6 (.int .i64 k) rfl (fun _ => rfl), (Ch.set _ hS _ _).trans (Ch.set _ hS _ _) (fun k hk => .inl hk)⟩
  · obtain rfl : m = 0 := by omega
    have h1 : n < 0 := by omega
    clear hm h0
    go_enter Try.func12, Try.ntmps12
    go_wp2
    go_end0
    exact ⟨⟨_, rfl⟩, (HD.out.set (s' := { s with armed := 0 }) 5 (.int .i64 0) rfl (fun _ => rfl)).set (s' := { s with armed := 0, keep := k }) 6 (.int .i64 k) rfl (fun _ => rfl), (Ch.set _ hS _ _).trans (Ch.set _ hS _ _) (fun k hk => .inl hk)⟩
def DSt.tick (s : DSt) : DSt := if s.armed = 0 then s else { s with armed := s.armed - 1 }
def DSt.hit (s : DSt) : Bool := decide (s.armed = 1)
theorem dtrips (W : World) (S : Nat → Prop) (g : Nat) (s : DSt) (h : Dy W S g s) (h0 : 0 ≤ s.armed) (h1 : s.armed ≤ 9223372036854775807) : Calls Try.prog 40 #[.pointer (some ⟨g, 0, none⟩)] W fun e w' => e = .returned (.bool s.hit) ∧ Dy w' S g s.tick ∧ Ch W w' S := by
  have HD := Aside0.mk h
  obtain ⟨hS, A, c, hg, hN⟩ := h
  have q5 : W.cell? ⟨g, 5, none⟩ = some (.int .i64 s.armed) := rc_cell hg 5 _ rfl
  have qf : ∀ j, W.frozen? ⟨g, j, none⟩ = false := fun j => frozen_of_row _ _ _ _ _ hg
  have q6 : ∀ v, (W.setCell ⟨g, 5, none⟩ v).cell? ⟨g, 5, none⟩ = some v := fun v => rc_cell (heap_setCell_same W g 5 _ _ v hg) 5 _ rfl
  clear hg hN
  by_cases hz : s.armed = 0
  · have e1 : s.tick = s := by unfold DSt.tick; rw [if_pos hz]
    have e2 : s.hit = false := by unfold DSt.hit; rw [hz]; rfl
    rw [e1, e2]
    clear e1 e2
    rw [hz] at q5
    go_enter Try.func40, Try.ntmps40
    go_wp2
    go_ret
    exact ⟨rfl, HD.out, Ch.refl _ _⟩
  · have e1 : s.tick = { s with armed := s.armed - 1 } := by unfold DSt.tick; rw [if_neg hz]
    have HE1 := Aside0.mk e1
    have hz' : (s.armed == 0) = false := by rw [beq_eq_false_iff_ne]; exact hz
    have e2 : (s.armed - 1 == 0) = s.hit := by
      unfold DSt.hit
      rw [Bool.eq_iff_iff, beq_iff_eq, decide_eq_true_eq]
      omega
    clear e1 hz
    go_enter Try.func40, Try.ntmps40
    go_wp2
    go_ret
    exact ⟨by first | rfl | (rw [← e2]; rfl), by rw [HE1.out]; exact HD.out.set 5 _ rfl (fun _ => rfl), Ch.set _ hS _ _⟩
end Go.Proofs.Ytbkfdejcmimhgaa
