/- A diary of the call's own; the wakes of wherrylaw18. -/
import Derived.Test.YtbkfdejcmimhgaaProg
import Derived.WalkKit
import Derived.WalkLawsBesides
import Derived.Outline
import Derived.LoopTactic
import Derived.Lib.Hide
import Derived.Deep.QuietTactic
import Derived.BigQuiet
import Derived.Deep.LoopGhost
import Derived.Deep.DeepCutAuto
import Derived.Deep.CutBlock
import Derived.Deep.RegionHeld3
import Derived.Deep.RegionWith
import Derived.Deep.WholeRow
import Derived.Laws.Rows
import Derived.Laws.Tables
import Derived.Laws.ResultCell
import Derived.StillTailTactics
import Derived.Deep.DeepMust
import Derived.IntWalk
import Derived.KernelRfl
import Derived.Test.YtbkfdejcmimhgaaVa
import Derived.RegionTactic
import Derived.Test.YtbkfdejcmimhgaaDiG
namespace Go.Proofs.Ytbkfdejcmimhgaa
open Go.RowKit Go.Proofs.YtbkfdejcmimhgaaW.PrintWords Go.Proofs.Ytbkfdejcmimhgaa.PDiaryExact
set_option linter.unusedVariables false
set_option linter.unusedSimpArgs false
/-- A diary that lies behind B. -/
abbrev Db (B : Nat) (W : World) (g : Nat) (s : DSt) : Prop := Dy W (fun k => B ≤ k) g s
theorem Ch.behind {B : Nat} {W W' : World} {S : Nat → Prop} (h : Ch W W' S) (hB : B ≤ W.heap.size) (hS : ∀ k, S k → B ≤ k) : Below B W W' := h.below B hB (fun k hk hs => by have := hS k hs; omega)
theorem new_at (B : Nat) (n : Int) (h1 : 1 ≤ n) (h2 : n ≤ 131072) (w : World) (hB : B ≤ w.heap.size) : Calls Try.prog 11 #[.int .i64 n] w fun e w' => e = .returned (.tuple #[.pointer (some ⟨w.heap.size, 0, none⟩), .int .i64 0]) ∧ Db B w' w.heap.size (DSt.new n) ∧ Below w.heap.size w w' := by
  refine (dnew_yes n h1 h2 w).mono ?_
  rintro e w' ⟨rfl, h, hb⟩
  exact ⟨rfl, h.mono (fun k hk => by omega), hb⟩
theorem put_at (B : Nat) (W : World) (g : Nat) (s s' : DSt) (x : S39) (cs : Array Value) (r : Int) (hs : s.put x = (r, s')) (h : Db B W g s) (hB : B ≤ W.heap.size) (hK : k39.K W x cs.toList) (hL : Lite x) (hh : x.f1.f4.size ≤ 1000000) (hok : s.Ok) (hlen : s.recs.length < 1000000) (hF : Fine s.recs) (ha : s.Armed) (hl0 : 0 ≤ s.limit) (hl1 : s.limit ≤ 1000000) :
    Calls Try.prog 13 #[.pointer (some ⟨g, 0, none⟩), .agg cs] W fun e w' => e = .returned (.int .i64 r) ∧ Db B w' g s' ∧ Below B W w' := by
  have h1 := dput W (fun k => B ≤ k ∧ k < W.heap.size) g s x cs.toList h.bound (fun k hk => hk.2) hK hL hh hok hlen hF ha hl0 hl1
  rw [hs] at h1
  refine h1.mono ?_
  rintro e w' ⟨rfl, hd, hc⟩
  exact ⟨rfl, hd.mono (fun k hk => by omega), hc.behind hB (fun k hk => hk.1)⟩
theorem sync_at (B : Nat) (W : World) (g : Nat) (s s' : DSt) (r : Int) (hs : s.sync = (r, s')) (h : Db B W g s) (hB : B ≤ W.heap.size) (hok : s.Ok) (ha : s.Armed) : Calls Try.prog 15 #[.pointer (some ⟨g, 0, none⟩)] W fun e w' => e = .returned (.int .i64 r) ∧ Db B w' g s' ∧ Below B W w' := by
  have h1 := dsync W _ g s h hok ha
  rw [hs] at h1
  refine h1.mono ?_
  rintro e w' ⟨rfl, hd, hc⟩
  exact ⟨rfl, hd, hc.behind hB (fun k hk => hk)⟩
theorem crash_at (B : Nat) (W : World) (g : Nat) (s s' : DSt) (keep : Int) (hs : s.crash keep = s') (h : Db B W g s) (hB : B ≤ W.heap.size) (hok : s.Ok) : Calls Try.prog 22 #[.pointer (some ⟨g, 0, none⟩), .int .i64 keep] W fun e w' => (∃ v, e = .returned v) ∧ Db B w' g s' ∧ Below B W w' := by
  have h1 := dcrash W _ g s keep h hok
  rw [hs] at h1
  refine h1.mono ?_
  rintro e w' ⟨⟨v, rfl⟩, hd, hc⟩
  exact ⟨⟨v, rfl⟩, hd, hc.behind hB (fun k hk => hk)⟩
theorem start_at (B : Nat) (W : World) (g : Nat) (s : DSt) (h : Db B W g s) (hB : B ≤ W.heap.size) : Calls Try.prog 16 #[.pointer (some ⟨g, 0, none⟩)] W fun e w' => (∃ v, e = .returned v) ∧ Db B w' g { s with off := false } ∧ Below B W w' := by
  refine (dstart W _ g s h).mono ?_
  rintro e w' ⟨⟨v, rfl⟩, hd, hc⟩
  exact ⟨⟨v, rfl⟩, hd, hc.behind hB (fun k hk => hk)⟩
/-- A record of nothing but a number. -/
def rid (n : Int) : S39 := { z39 with f2 := n }
theorem rid_K (n : Int) (W : World) : k39.K W (rid n) (rc (rid n) (.slice none 0 0) (.slice none 0 0) (.slice none 0 0) (.slice none 0 0)).toList := k39_mk W (rid n) (Nat.le_refl 0) (Kd.C_nil _ _) (Nat.le_refl 0) (Kd.C_nil _ _) (Nat.le_refl 0) (Kd.C_nil _ _) (Nat.le_refl 0) (Kd.C_nil _ _)
theorem rid_lite (n : Int) : Lite (rid n) := ⟨Nat.zero_le _, Nat.zero_le _, Nat.zero_le _, Nat.zero_le _⟩
theorem rid_helo (n : Int) : (rid n).f1.f4.size ≤ 1000000 := Nat.zero_le _
theorem rid_fine (n : Int) : Fine [rid n] := fun x hx => by
  obtain rfl : x = rid n := by simpa using hx
  exact ⟨rid_lite n, rid_helo n⟩
def st1 : DSt := ⟨200, [rid 1], 0, false, 0, 0, 0, 0⟩
def st2 : DSt := ⟨200, [rid 1], 1, false, 0, 0, 0, 0⟩
def st3 : DSt := ⟨200, [rid 1], 1, true, 1, 0, 0, 0⟩
def st4 : DSt := ⟨200, [rid 1], 1, false, 1, 0, 0, 0⟩
theorem put1_eq : (DSt.new 200).put (rid 1) = (0, st1) := by kernel_rfl
theorem sync1_eq : st1.sync = (0, st2) := by kernel_rfl
theorem put2_eq : st2.put (rid 2) = (8, st2) := by kernel_rfl
theorem crash1_eq : st2.crash 0 = st3 := by kernel_rfl
theorem rooms1_eq : roomsOf [rid 1] = 104 := by kernel_rfl
theorem room0_eq : room z39 = 104 := by kernel_rfl
/-- The cells of such a record. -/
abbrev zcs (n : Int) : Array Value := #[.int .i64 0, .bool false, .string { data := #[] }, .string { data := #[] }, .slice none 0 0, .slice none 0 0, .bool false, .string { data := #[] }, .int .i64 0, .int .i64 n, .slice none 0 0, .int .i64 0, .int .i64 0, .int .i64 0, .slice none 0 0]
theorem zcs_K (n : Int) (W : World) : k39.K W (rid n) (zcs n).toList := rid_K n W
theorem z_K (W : World) : k39.K W z39 (zcs 0).toList := rid_K 0 W
theorem z_lite : Lite z39 := ⟨Nat.zero_le _, Nat.zero_le _, Nat.zero_le _, Nat.zero_le _⟩
theorem z_helo : z39.f1.f4.size ≤ 1000000 := Nat.zero_le _
theorem z_fine : Fine [z39] := fun x hx => by
  obtain rfl : x = z39 := by simpa using hx
  exact ⟨z_lite, z_helo⟩
theorem read1_at (B : Nat) (W : World) (g : Nat) (h : Db B W g st4) : Calls Try.prog 17 #[.pointer (some ⟨g, 0, none⟩)] W fun e w' => ∃ b c, e = .returned (.tuple #[.slice (some ⟨b, 0, none⟩) 1 c, .int .i64 0]) ∧ w'.cell? ⟨b, 9, none⟩ = some (.int .i64 1) ∧ 1 ≤ c ∧ Below W.heap.size W w' := by
  refine (dread_yes W _ g st4 h rfl (rid_fine 1) (by decide)).mono ?_
  rintro e w' ⟨v, rfl, hN, hb⟩
  obtain ⟨b, c, rfl, _, _, _⟩ := Kd.N_form hN (by decide)
  obtain ⟨_, hc, hC⟩ := Kd.N_reads' hN
  obtain ⟨ad, A4, c4, A5, c5, A10, c10, A14, c14, ea, q0, q1, q2, q3, q4, q5, q6, q7, q8, q9, _⟩ := at_T39 hC 0 (by decide) (by decide)
  cases ea
  exact ⟨b, c, rfl, q9, hc, hb⟩
theorem used1_at (B : Nat) (W : World) (g : Nat) (h : Db B W g st4) : Calls Try.prog 28 #[.pointer (some ⟨g, 0, none⟩)] W fun e w' => e = .returned (.int .i64 104) ∧ Below W.heap.size W w' := dused_at W _ g st4 104 rooms1_eq.symm h (rid_fine 1) (by decide)
theorem life1_at (B : Nat) (W : World) (g : Nat) (h : Db B W g st4) : Calls Try.prog 18 #[.pointer (some ⟨g, 0, none⟩)] W fun e w' => e = .returned (.int .i64 1) ∧ W = w' := dlife W _ g st4 h
theorem kept1_at (B : Nat) (W : World) (g : Nat) (h : Db B W g st4) : Calls Try.prog 20 #[.pointer (some ⟨g, 0, none⟩)] W fun e w' => e = .returned (.int .i64 0) ∧ W = w' := dkept W _ g st4 h
theorem room1_at (W : World) : Calls Try.prog 21 #[.agg (zcs 0)] W fun e w' => e = .returned (.int .i64 104) ∧ Below W.heap.size W w' := droom_at z39 (zcs 0).toList 104 W room0_eq.symm (z_K W) z_lite z_helo
theorem Db.after {B : Nat} {W W' : World} {g : Nat} {s : DSt} (h : Db B W g s) (hb : Below W.heap.size W W') : Db B W' g s := Dy.below h hb
theorem st_fine : Fine st2.recs := rid_fine 1
theorem fine_nil : Fine (DSt.new 200).recs := fun x h => by cases h
set_option maxRecDepth 100000 in
set_option maxHeartbeats 8000000 in
theorem wakesD_any (w : World) : Calls Try.prog 14 #[] w fun e w' => e = .returned (.bool true) ∧ Below w.heap.size w w' := by
  have ok0 : (DSt.new 200).Ok := by unfold DSt.Ok DSt.new; simp
  have ok1 : st1.Ok := by unfold DSt.Ok st1; simp
  have ok2 : st2.Ok := by unfold DSt.Ok st2; simp
  have ar0 : ∀ s : DSt, s.armed = 0 → s.Armed := fun s h => by unfold DSt.Armed; omega
  have OK0 := Aside0.mk ok0
  have OK1 := Aside0.mk ok1
  have OK2 := Aside0.mk ok2
  have AR0 := Aside0.mk ar0
  obtain ⟨B, hB⟩ : ∃ B, B = w.heap.size := ⟨_, rfl⟩
  have HBB := Aside0.mk hB
  clear ok0 ok1 ok2 ar0 hB
  go_enter Try.func14, Try.ntmps14
  go_wp2_with (first | (go_at_call 11; refine (new_at B 200 (by decide) (by decide) w (by rw [HBB.out]; exact Nat.le_refl _)).mono ?_; rintro e w1 ⟨rfl, h1, h2⟩; rw [← HBB.out] at h1 h2; rw [← HBB.out]; have D1 := Aside0.mk h1; have G1 := Aside0.mk h2; have Z1 := Aside0.mk (show B ≤ w1.heap.size from Nat.le_trans (Nat.le_of_eq HBB.out) h2.size); clear h1 h2) | (go_at_call 13; with_reducible refine Calls.mono (put_at B w1 B (DSt.new 200) st1 (rid 1) (zcs 1) 0 put1_eq D1.out Z1.out (zcs_K 1 w1) (rid_lite 1) (rid_helo 1) OK0.out (by decide) fine_nil (AR0.out _ rfl) (by decide) (by decide)) ?_; rintro e w2 ⟨rfl, h1, h2⟩; have D2 := Aside0.mk h1; have G2 := Aside0.mk h2; have Z2 := Aside0.mk (Nat.le_trans Z1.out h2.size); clear h1 h2) | (go_at_call 15; refine Calls.mono (sync_at B w2 B st1 st2 0 sync1_eq D2.out Z2.out OK1.out (AR0.out _ rfl)) ?_; rintro e w3 ⟨rfl, h1, h2⟩; have D3 := Aside0.mk h1; have G3 := Aside0.mk h2; have Z3 := Aside0.mk (Nat.le_trans Z2.out h2.size); clear h1 h2) | (go_at_call 13; with_reducible refine Calls.mono (put_at B w3 B st2 st2 (rid 2) (zcs 2) 8 put2_eq D3.out Z3.out (zcs_K 2 w3) (rid_lite 2) (rid_helo 2) OK2.out (by decide) st_fine (AR0.out _ rfl) (by decide) (by decide)) ?_; rintro e w4 ⟨rfl, h1, h2⟩; have D4 := Aside0.mk h1; have G4 := Aside0.mk h2; have Z4 := Aside0.mk (Nat.le_trans Z3.out h2.size); clear h1 h2) | (go_at_call 22; refine Calls.mono (crash_at B w4 B st2 st3 0 crash1_eq D4.out Z4.out OK2.out) ?_; rintro e w5 ⟨⟨v5, rfl⟩, h1, h2⟩; have D5 := Aside0.mk h1; have G5 := Aside0.mk h2; have Z5 := Aside0.mk (Nat.le_trans Z4.out h2.size); clear h1 h2) | (go_at_call 16; refine Calls.mono (start_at B w5 B st3 D5.out Z5.out) ?_; rintro e w6 ⟨⟨v6, rfl⟩, h1, h2⟩; have D6 := Aside0.mk (show Db B w6 B st4 from h1); have G6 := Aside0.mk h2; have Z6 := Aside0.mk (Nat.le_trans Z5.out h2.size); clear h1 h2) | (go_at_call 17; refine Calls.mono (read1_at B w6 B D6.out) ?_; rintro e w7 ⟨b7, c7, rfl, q7, hc7, h2⟩; have D7 := Aside0.mk (D6.out.after h2); have G7 := Aside0.mk h2; have HC7 := Aside0.mk hc7; clear h2 hc7) | (go_at_call 28; refine Calls.mono (used1_at B w7 B D7.out) ?_; rintro e w8 ⟨rfl, h2⟩; have D8 := Aside0.mk (D7.out.after h2); have G8 := Aside0.mk h2; clear h2) | (go_at_call 18; refine Calls.mono (life1_at B w8 B D8.out) ?_; rintro e w9 ⟨rfl, rfl⟩) | (go_at_call 20; refine Calls.mono (kept1_at B w8 B D8.out) ?_; rintro e w9 ⟨rfl, rfl⟩) | (go_at_call 21; refine Calls.mono (room1_at w8) ?_; rintro e w9 ⟨rfl, h2⟩; have G9 := Aside0.mk h2; clear h2))
  go_ret
  refine ⟨rfl, ?_⟩
  rw [← HBB.out]
  exact (((((((G1.out.trans G2.out).trans G3.out).trans G4.out).trans G5.out).trans G6.out).trans (G7.out.mono Z6.out)).trans (G8.out.mono (Nat.le_trans Z6.out G7.out.size))).trans (G9.out.mono (Nat.le_trans (Nat.le_trans Z6.out G7.out.size) G8.out.size))
end Go.Proofs.Ytbkfdejcmimhgaa
