/- Two diaries in one memory: each call leaves the other one, and a held part, as it was. -/
import Derived.Test.YtbkfdejcmimhgaaProg
import Derived.WalkKit
import Derived.WalkLawsBesides
import Derived.Outline
import Derived.LoopTactic
import Derived.Lib.Hide
import Derived.Deep.QuietTactic
import Derived.BigQuiet
import Derived.Deep.LoopGhost
import Derived.Deep.DeepCutAuto
import Derived.Deep.CutBlock
import Derived.Deep.RegionHeld3
import Derived.Deep.RegionWith
import Derived.Deep.WholeRow
import Derived.Laws.Rows
import Derived.Laws.Tables
import Derived.Laws.ResultCell
import Derived.StillTailTactics
import Derived.Deep.DeepMust
import Derived.IntWalk
import Derived.KernelRfl
import Derived.Test.YtbkfdejcmimhgaaVa
import Derived.RegionTactic
import Derived.Test.YtbkfdejcmimhgaaEi
import Derived.Test.YtbkfdejcmimhgaaEf
namespace Go.Proofs.Ytbkfdejcmimhgaa
open Go.RowKit Go.Proofs.YtbkfdejcmimhgaaW.PrintWords Go.Proofs.Ytbkfdejcmimhgaa.PDiaryExact
set_option linter.unusedVariables false
set_option linter.unusedSimpArgs false
/-- What lies below B, and what is held in U, is as it was. -/
def Sd (B : Nat) (U : Nat → Prop) (W W' : World) : Prop := Below B W W' ∧ ∀ k, U k → k < W.heap.size → W'.heap[k]? = W.heap[k]?
theorem Sd.refl (B : Nat) (U : Nat → Prop) (W : World) : Sd B U W W := ⟨Below.refl _ _, fun _ _ _ => rfl⟩
theorem Sd.trans {B : Nat} {U : Nat → Prop} {W W1 W2 : World} (h : Sd B U W W1) (k : Sd B U W1 W2) : Sd B U W W2 := ⟨h.1.trans k.1, fun j hj hlt => (k.2 j hj (Nat.lt_of_lt_of_le hlt h.1.size)).trans (h.2 j hj hlt)⟩
theorem Sd.of_below {B : Nat} {U : Nat → Prop} {W W1 : World} (h : Below W.heap.size W W1) (hB : B ≤ W.heap.size) : Sd B U W W1 := ⟨h.mono hB, fun k _ hlt => h.block k hlt⟩
theorem Sd.of_ch {B : Nat} {U S : Nat → Prop} {W W1 : World} (h : Ch W W1 S) (hB : B ≤ W.heap.size) (hS : ∀ k, S k → B ≤ k) (hU : ∀ k, S k → ¬ U k) : Sd B U W W1 := ⟨h.behind hB hS, fun k hk hlt => h.2.2 k hlt (fun hs => hU k hs hk)⟩
/-- Two diaries, apart from one another and from U. -/
def Pair (B : Nat) (U : Nat → Prop) (W : World) (g h : Nat) (s t : DSt) : Prop := ∃ S T : Nat → Prop, Dy W S g s ∧ Ry W T h t ∧ (∀ k, S k → ¬ T k) ∧ (∀ k, S k → B ≤ k ∧ k < W.heap.size ∧ ¬ U k) ∧ (∀ k, T k → B ≤ k ∧ k < W.heap.size ∧ ¬ U k) ∧ (∀ k, U k → k < W.heap.size) ∧ B ≤ W.heap.size
theorem Ry.ch' {W W' : World} {S S2 : Nat → Prop} {g : Nat} {s : DSt} (h : Ry W S g s) (hc : Ch W W' S2) (hd : ∀ k, S k → ¬ S2 k) : Ry W' S g s := h.ch hc hd
theorem Pair.real {B : Nat} {U S T : Nat → Prop} {W W' : World} {g h : Nat} {s' t : DSt} (hR : Ry W T h t) (ap : ∀ k, S k → ¬ T k) (sB : ∀ k, S k → B ≤ k ∧ k < W.heap.size ∧ ¬ U k) (tB : ∀ k, T k → B ≤ k ∧ k < W.heap.size ∧ ¬ U k) (uB : ∀ k, U k → k < W.heap.size) (hB : B ≤ W.heap.size) (hD : Dy W' (fun k => S k ∨ W.heap.size ≤ k) g s') (hc : Ch W W' S) : Pair B U W' g h s' t ∧ Sd B U W W' := by
  have hz := hc.1.size
  refine ⟨⟨_, T, hD.bound, hR.ch hc (fun k hT hS => ap k hS hT), fun k hk hT => ?_, fun k hk => ?_, fun k hk => ?_, fun k hk => by have := uB k hk; omega, by omega⟩, Sd.of_ch hc hB (fun k hk => (sB k hk).1) (fun k hk => (sB k hk).2.2)⟩
  · rcases hk.1 with h1 | h1
    · exact ap k h1 hT
    · have := (tB k hT).2.1; omega
  · rcases hk.1 with h1 | h1
    · have := sB k h1; exact ⟨this.1, hk.2, this.2.2⟩
    · exact ⟨by omega, hk.2, fun hu => by have := uB k hu; omega⟩
  · have := tB k hk; exact ⟨this.1, by omega, this.2.2⟩
theorem Pair.ref {B : Nat} {U S T : Nat → Prop} {W W' : World} {g h : Nat} {s t' : DSt} (hD : Dy W S g s) (ap : ∀ k, S k → ¬ T k) (sB : ∀ k, S k → B ≤ k ∧ k < W.heap.size ∧ ¬ U k) (tB : ∀ k, T k → B ≤ k ∧ k < W.heap.size ∧ ¬ U k) (uB : ∀ k, U k → k < W.heap.size) (hB : B ≤ W.heap.size) (hR : Ry W' (fun k => T k ∨ W.heap.size ≤ k) h t') (hc : Ch W W' T) : Pair B U W' g h s t' ∧ Sd B U W W' := by
  have hz := hc.1.size
  refine ⟨⟨S, _, hD.ch hc (fun k hS hT => ap k hS hT), hR.bound, fun k hS hk => ?_, fun k hk => ?_, fun k hk => ?_, fun k hk => by have := uB k hk; omega, by omega⟩, Sd.of_ch hc hB (fun k hk => (tB k hk).1) (fun k hk => (tB k hk).2.2)⟩
  · rcases hk.1 with h1 | h1
    · exact ap k hS h1
    · have := (sB k hS).2.1; omega
  · have := sB k hk; exact ⟨this.1, by omega, this.2.2⟩
  · rcases hk.1 with h1 | h1
    · have := tB k h1; exact ⟨this.1, hk.2, this.2.2⟩
    · exact ⟨by omega, hk.2, fun hu => by have := uB k hu; omega⟩
theorem Pair.below {B : Nat} {U : Nat → Prop} {W W' : World} {g h : Nat} {s t : DSt} (p : Pair B U W g h s t) (hb : Below W.heap.size W W') : Pair B U W' g h s t := by
  obtain ⟨S, T, hD, hR, ap, sB, tB, uB, hB⟩ := p
  have hz := hb.size
  exact ⟨S, T, hD.below hb, hR.below hb, ap, fun k hk => by have := sB k hk; exact ⟨this.1, by omega, this.2.2⟩, fun k hk => by have := tB k hk; exact ⟨this.1, by omega, this.2.2⟩, fun k hk => by have := uB k hk; omega, by omega⟩
/-- What is new is held, too. -/
theorem Pair.hold {B : Nat} {U : Nat → Prop} {W W' : World} {g h : Nat} {s t : DSt} (p : Pair B U W g h s t) (hb : Below W.heap.size W W') : Pair B (fun k => U k ∨ (W.heap.size ≤ k ∧ k < W'.heap.size)) W' g h s t := by
  obtain ⟨S, T, hD, hR, ap, sB, tB, uB, hB⟩ := p
  have hz := hb.size
  refine ⟨S, T, hD.below hb, hR.below hb, ap, fun k hk => ?_, fun k hk => ?_, fun k hk => ?_, by omega⟩
  · have := sB k hk; exact ⟨this.1, by omega, fun hu => hu.elim this.2.2 (fun h => by omega)⟩
  · have := tB k hk; exact ⟨this.1, by omega, fun hu => hu.elim this.2.2 (fun h => by omega)⟩
  · rcases hk with hk | hk
    · have := uB k hk; omega
    · exact hk.2
theorem Pair.less {B : Nat} {U U' : Nat → Prop} {W : World} {g h : Nat} {s t : DSt} (p : Pair B U W g h s t) (hu : ∀ k, U' k → U k) : Pair B U' W g h s t := by
  obtain ⟨S, T, hD, hR, ap, sB, tB, uB, hB⟩ := p
  exact ⟨S, T, hD, hR, ap, fun k hk => ⟨(sB k hk).1, (sB k hk).2.1, fun h => (sB k hk).2.2 (hu k h)⟩, fun k hk => ⟨(tB k hk).1, (tB k hk).2.1, fun h => (tB k hk).2.2 (hu k h)⟩, fun k hk => uB k (hu k hk), hB⟩
theorem Pair.ow {B : Nat} {U V : Nat → Prop} {W W' : World} {g h : Nat} {s t : DSt} (p : Pair B U W g h s t) (ho : Ow V W W') (hv : ∀ k, V k → U k) : Pair B U W' g h s t := by
  obtain ⟨S, T, hD, hR, ap, sB, tB, uB, hB⟩ := p
  have hz := ho.1.1.size
  exact ⟨S, T, hD.ch ho.1 (fun k hk hv' => (sB k hk).2.2 (hv k hv')), hR.ch ho.1 (fun k hk hv' => (tB k hk).2.2 (hv k hv')), ap, fun k hk => by have := sB k hk; exact ⟨this.1, by omega, this.2.2⟩, fun k hk => by have := tB k hk; exact ⟨this.1, by omega, this.2.2⟩, fun k hk => by have := uB k hk; omega, by omega⟩
theorem Pair.size {B : Nat} {U : Nat → Prop} {W : World} {g h : Nat} {s t : DSt} (p : Pair B U W g h s t) : B ≤ W.heap.size := by
  obtain ⟨S, T, hD, hR, ap, sB, tB, uB, hB⟩ := p
  exact hB
theorem dreadb_yes (W : World) (S : Nat → Prop) (g : Nat) (s : DSt) (h : Dy W S g s) (hoff : s.off = false) (hF : Fine s.recs) (hl : s.recs.length ≤ 1000000) : Calls Try.prog 17 #[.pointer (some ⟨g, 0, none⟩)] W fun e w' => ∃ v, e = .returned (.tuple #[v, .int .i64 0]) ∧ Kd.N (k39b (fun k => W.heap.size ≤ k)) 39 w' W.heap.size (fun k => W.heap.size ≤ k) v s.recs ∧ Below W.heap.size W w' := by
  obtain ⟨_, A, c, hg, hN⟩ := h
  have q3 : W.cell? ⟨g, 3, none⟩ = some (.bool false) := by rw [← hoff]; exact rc_cell hg 3 _ rfl
  have q1 : W.cell? ⟨g, 1, none⟩ = some (.slice A s.recs.length c) := rc_cell hg 1 _ rfl
  have HR := Aside0.mk (Kd.N_reads' hN)
  have HF := Aside0.mk hF
  clear hg hN hF
  go_enter Try.func17, Try.ntmps17
  go_wp2_with (first | (go_at_call 41; refine (dtwinsb_any A c s.recs W HR.out.2.2 HF.out.lites hl).mono ?_; rintro e w1 ⟨v, rfl, h1, h2⟩; have H1 := Aside0.mk h1; have H2 := Aside0.mk h2; clear h1 h2))
  refine bodyPost_ret (results_tmp2 rfl _ _ _) rfl ?_
  exact ⟨_, rfl, H1.out, H2.out⟩
section
variable {B i : Nat} {U : Nat → Prop} {W : World} {g h : Nat} {s t : DSt}
theorem pair_put (p : Pair B U W g h s t) (hb : Bd i s) (hi : i ≤ 40) (x : S39) (cs : Array Value) (hK : k39.K W x cs.toList) (hx : Small x) : Calls Try.prog 13 #[.pointer (some ⟨g, 0, none⟩), .agg cs] W fun e w' => e = .returned (.int .i64 (s.put x).1) ∧ Pair B U w' g h (s.put x).2 t ∧ Sd B U W w' := by
  obtain ⟨S, T, hD, hR, ap, sB, tB, uB, hB⟩ := p
  refine (dput W S g s x cs.toList hD (fun k hk => (sB k hk).2.1) hK hx.lite hx.helo (hb.ok hi) (by have := hb.len; omega) (fine_of_small hb.small) hb.ar (by have := hb.lim0; omega) (by have := hb.lim1; omega)).mono ?_
  rintro e w' ⟨rfl, h1, h2⟩
  exact ⟨rfl, Pair.real hR ap sB tB uB hB h1 h2⟩
theorem pair_sync (p : Pair B U W g h s t) (hb : Bd i s) (hi : i ≤ 40) : Calls Try.prog 15 #[.pointer (some ⟨g, 0, none⟩)] W fun e w' => e = .returned (.int .i64 s.sync.1) ∧ Pair B U w' g h s.sync.2 t ∧ Sd B U W w' := by
  obtain ⟨S, T, hD, hR, ap, sB, tB, uB, hB⟩ := p
  refine (dsync W S g s hD (hb.ok hi) hb.ar).mono ?_
  rintro e w' ⟨rfl, h1, h2⟩
  exact ⟨rfl, Pair.real hR ap sB tB uB hB (h1.mono (fun k hk => .inl hk)) h2⟩
theorem pair_renew (p : Pair B U W g h s t) (hb : Bd i s) (hi : i ≤ 40) (l : List S39) (A : Option Addr) (c : Nat) (V : Nat → Prop) (hV : Kd.F k39 W V A l.length l) (hd : ∀ k, V k → k < B ∨ U k) (hc : l.length ≤ c) (hl : l.length ≤ 60) (hs : ∀ y ∈ l, Small y) : Calls Try.prog 26 #[.pointer (some ⟨g, 0, none⟩), .slice A l.length c] W fun e w' => e = .returned (.int .i64 (s.renew l).1) ∧ Pair B U w' g h (s.renew l).2 t ∧ Sd B U W w' := by
  obtain ⟨S, T, hD, hR, ap, sB, tB, uB, hB⟩ := p
  refine (drenew W S V g s l A c hD (fun k hk => (sB k hk).2.1) hV (fun k hk hS => ?_) hc (fine_of_small hs) (by omega) (hb.ok hi) hb.ar).mono ?_
  · rcases hd k hk with h1 | h1
    · have := (sB k hS).1; omega
    · exact (sB k hS).2.2 h1
  rintro e w' ⟨rfl, h1, h2⟩
  exact ⟨rfl, Pair.real hR ap sB tB uB hB h1 h2⟩
theorem pair_crash (p : Pair B U W g h s t) (hb : Bd i s) (hi : i ≤ 40) (k : Int) : Calls Try.prog 22 #[.pointer (some ⟨g, 0, none⟩), .int .i64 k] W fun e w' => (∃ v, e = .returned v) ∧ Pair B U w' g h (s.crash k) t ∧ Sd B U W w' := by
  obtain ⟨S, T, hD, hR, ap, sB, tB, uB, hB⟩ := p
  refine (dcrash W S g s k hD (hb.ok hi)).mono ?_
  rintro e w' ⟨hv, h1, h2⟩
  exact ⟨hv, Pair.real hR ap sB tB uB hB (h1.mono (fun k hk => .inl hk)) h2⟩
theorem pair_trip (p : Pair B U W g h s t) (n k m : Int) (hm : m = max n 0) : Calls Try.prog 12 #[.pointer (some ⟨g, 0, none⟩), .int .i64 n, .int .i64 k] W fun e w' => (∃ v, e = .returned v) ∧ Pair B U w' g h { s with armed := m, keep := k } t ∧ Sd B U W w' := by
  obtain ⟨S, T, hD, hR, ap, sB, tB, uB, hB⟩ := p
  refine (dtrip W S g s n k m hm hD).mono ?_
  rintro e w' ⟨hv, h1, h2⟩
  exact ⟨hv, Pair.real hR ap sB tB uB hB (h1.mono (fun k hk => .inl hk)) h2⟩
theorem pair_start (p : Pair B U W g h s t) : Calls Try.prog 16 #[.pointer (some ⟨g, 0, none⟩)] W fun e w' => (∃ v, e = .returned v) ∧ Pair B U w' g h { s with off := false } t ∧ Sd B U W w' := by
  obtain ⟨S, T, hD, hR, ap, sB, tB, uB, hB⟩ := p
  refine (dstart W S g s hD).mono ?_
  rintro e w' ⟨hv, h1, h2⟩
  exact ⟨hv, Pair.real hR ap sB tB uB hB (h1.mono (fun k hk => .inl hk)) h2⟩
theorem pair_rput (p : Pair B U W g h s t) (hb : Bd i t) (hi : i ≤ 40) (x : S39) (cs : Array Value) (hK : k39.K W x cs.toList) (hx : Small x) : Calls Try.prog 30 #[.pointer (some ⟨h, 0, none⟩), .agg cs] W fun e w' => e = .returned (.int .i64 (t.rput x).1) ∧ Pair B U w' g h s (t.rput x).2 ∧ Sd B U W w' := by
  obtain ⟨S, T, hD, hR, ap, sB, tB, uB, hB⟩ := p
  refine (rput W T h t x cs.toList hR (fun k hk => (tB k hk).2.1) hK hx.lite hx.helo (hb.ok hi) (by have := hb.len; omega) (fine_of_small hb.small) hb.ar (by have := hb.lim0; omega) (by have := hb.lim1; omega)).mono ?_
  rintro e w' ⟨rfl, h1, h2⟩
  exact ⟨rfl, Pair.ref hD ap sB tB uB hB h1 h2⟩
theorem pair_rsync (p : Pair B U W g h s t) (hb : Bd i t) (hi : i ≤ 40) : Calls Try.prog 31 #[.pointer (some ⟨h, 0, none⟩)] W fun e w' => e = .returned (.int .i64 t.rsync.1) ∧ Pair B U w' g h s t.rsync.2 ∧ Sd B U W w' := by
  obtain ⟨S, T, hD, hR, ap, sB, tB, uB, hB⟩ := p
  refine (rsync W T h t hR (hb.ok hi) hb.ar).mono ?_
  rintro e w' ⟨rfl, h1, h2⟩
  exact ⟨rfl, Pair.ref hD ap sB tB uB hB (h1.mono (fun k hk => .inl hk)) h2⟩
theorem pair_rrenew (p : Pair B U W g h s t) (hb : Bd i t) (hi : i ≤ 40) (l : List S39) (A : Option Addr) (c : Nat) (V : Nat → Prop) (hV : Kd.F k39 W V A l.length l) (hd : ∀ k, V k → k < B ∨ U k) (hc : l.length ≤ c) (hl : l.length ≤ 60) (hs : ∀ y ∈ l, Small y) : Calls Try.prog 32 #[.pointer (some ⟨h, 0, none⟩), .slice A l.length c] W fun e w' => e = .returned (.int .i64 (t.rrenew l).1) ∧ Pair B U w' g h s (t.rrenew l).2 ∧ Sd B U W w' := by
  obtain ⟨S, T, hD, hR, ap, sB, tB, uB, hB⟩ := p
  refine (rrenew W T V h t l A c hR (fun k hk => (tB k hk).2.1) hV (fun k hk hS => ?_) hc (fine_of_small hs) (by omega) (hb.ok hi) hb.ar).mono ?_
  · rcases hd k hk with h1 | h1
    · have := (tB k hS).1; omega
    · exact (tB k hS).2.2 h1
  rintro e w' ⟨rfl, h1, h2⟩
  exact ⟨rfl, Pair.ref hD ap sB tB uB hB h1 h2⟩
theorem pair_rcrash (p : Pair B U W g h s t) (hb : Bd i t) (hi : i ≤ 40) (k : Int) : Calls Try.prog 33 #[.pointer (some ⟨h, 0, none⟩), .int .i64 k] W fun e w' => (∃ v, e = .returned v) ∧ Pair B U w' g h s (t.rcrash k) ∧ Sd B U W w' := by
  obtain ⟨S, T, hD, hR, ap, sB, tB, uB, hB⟩ := p
  refine (rcrash W T h t k hR (hb.ok hi)).mono ?_
  rintro e w' ⟨hv, h1, h2⟩
  exact ⟨hv, Pair.ref hD ap sB tB uB hB (h1.mono (fun k hk => .inl hk)) h2⟩
theorem pair_rtrip (p : Pair B U W g h s t) (n k m : Int) (hm : m = max n 0) : Calls Try.prog 34 #[.pointer (some ⟨h, 0, none⟩), .int .i64 n, .int .i64 k] W fun e w' => (∃ v, e = .returned v) ∧ Pair B U w' g h s { t with armed := m, keep := k } ∧ Sd B U W w' := by
  obtain ⟨S, T, hD, hR, ap, sB, tB, uB, hB⟩ := p
  refine (rtrip W T h t n k m hm hR).mono ?_
  rintro e w' ⟨hv, h1, h2⟩
  exact ⟨hv, Pair.ref hD ap sB tB uB hB (h1.mono (fun k hk => .inl hk)) h2⟩
theorem pair_rstart (p : Pair B U W g h s t) : Calls Try.prog 35 #[.pointer (some ⟨h, 0, none⟩)] W fun e w' => (∃ v, e = .returned v) ∧ Pair B U w' g h s { t with off := false } ∧ Sd B U W w' := by
  obtain ⟨S, T, hD, hR, ap, sB, tB, uB, hB⟩ := p
  refine (rstart W T h t hR).mono ?_
  rintro e w' ⟨hv, h1, h2⟩
  exact ⟨hv, Pair.ref hD ap sB tB uB hB (h1.mono (fun k hk => .inl hk)) h2⟩
theorem pair_read_no (p : Pair B U W g h s t) (ho : s.off = true) : Calls Try.prog 17 #[.pointer (some ⟨g, 0, none⟩)] W fun e w' => e = .returned (.tuple #[.slice none 0 0, .int .i64 7]) ∧ W = w' := by
  obtain ⟨S, T, hD, hR, ap, sB, tB, uB, hB⟩ := p
  exact dread_no W S g s hD ho
theorem pair_read_yes (p : Pair B U W g h s t) (hb : Bd i s) (hi : i ≤ 40) (ho : s.off = false) : Calls Try.prog 17 #[.pointer (some ⟨g, 0, none⟩)] W fun e w' => ∃ v, e = .returned (.tuple #[v, .int .i64 0]) ∧ Kd.N (k39b (fun k => W.heap.size ≤ k)) 39 w' W.heap.size (fun k => W.heap.size ≤ k) v s.recs ∧ Below W.heap.size W w' := by
  obtain ⟨S, T, hD, hR, ap, sB, tB, uB, hB⟩ := p
  exact dreadb_yes W S g s hD ho (fine_of_small hb.small) (by have := hb.len; omega)
theorem pair_same (p : Pair B U W g h s t) (hs : Sm s t) (hb : Bd i s) (hi : i ≤ 40) : Calls Try.prog 36 #[.pointer (some ⟨g, 0, none⟩), .pointer (some ⟨h, 0, none⟩)] W fun e w' => e = .returned (.bool true) ∧ Below W.heap.size W w' := by
  obtain ⟨S, T, hD, hR, ap, sB, tB, uB, hB⟩ := p
  exact same_any W S T g h s t hD hR hs hb.small (by have := hb.len; omega)
end
theorem pair_new (B : Nat) (n : Int) (h0 : 1 ≤ n) (h1 : n ≤ 131072) (W W1 W2 : World) (hB : B ≤ W.heap.size) (hD : Dy W1 (fun k => k = W.heap.size) W.heap.size (DSt.new n)) (hb : Below W.heap.size W W1) (hR : Ry W2 (fun k => k = W1.heap.size) W1.heap.size (DSt.new n)) (hb2 : Below W1.heap.size W1 W2) : Pair B (fun _ => False) W2 W.heap.size W1.heap.size (DSt.new n) (DSt.new n) := by
  have z1 := hD.lt
  have z2 := hR.lt
  have z3 := hb2.size
  exact ⟨_, _, hD.below hb2, hR, fun k hk hT => by omega, fun k hk => ⟨by omega, by omega, id⟩, fun k hk => ⟨by have := hb.size; omega, by omega, id⟩, fun k hk => hk.elim, by have := hb.size; omega⟩
theorem Sd.F {B : Nat} {U V : Nat → Prop} {W W' : World} {A : Option Addr} {n : Nat} {l : List S39} (hF : Kd.F k39 W V A n l) (h : Sd B U W W') (hd : ∀ k, V k → k < B ∨ U k) (hB : B ≤ W.heap.size) : Kd.F k39 W' V A n l :=
  Kd.F_step hF (fun k hk hlt => (hd k hk).elim (fun h1 => h.1.block k h1) (fun h1 => h.2 k h1 hlt))
theorem cell_same {W W' : World} {a : Addr} (h : W'.heap[a.block]? = W.heap[a.block]?) : W'.cell? a = W.cell? a := by
  unfold World.cell?
  rw [h]
theorem add_block (a : Addr) (k : Nat) : (a.add k).block = a.block := by
  unfold Addr.add
  split <;> rfl
/-- Element k of a row of twins: its rows of bytes. -/
theorem at_in {S ok : Nat → Prop} {W : World} {base : Nat} {A : Option Addr} {n c : Nat} {l : List S39} (h : Kd.N (k39b S) 39 W base ok (.slice A n c) l) (hl : ∀ y ∈ l, Small y) (k : Nat) (hk : k < n) : ∃ (ad : Addr) (cells : Array Value) (fr : Nat × Nat) (A5 : Option Addr) (n5 c5 : Nat) (A14 : Option Addr) (n14 c14 : Nat), A = some ad ∧ W.heap[ad.block]? = some (.cells cells 39 fr) ∧ W.cell? ⟨(ad.add (k * 15)).block, (ad.add (k * 15)).off + 5, none⟩ = some (.slice A5 n5 c5) ∧ W.cell? ⟨(ad.add (k * 15)).block, (ad.add (k * 15)).off + 14, none⟩ = some (.slice A14 n14 c14) ∧ n5 ≤ c5 ∧ n14 ≤ c14 ∧ n5 ≤ 1000000000 ∧ n14 ≤ 1000000000 ∧ OBs W S A5 n5 ∧ OBs W S A14 n14 ∧ ok ad.block := by
  have hr := Kd.N_reads' h
  obtain rfl := hr.1
  obtain ⟨g, cap, e, _, _, cells, hcells⟩ := Kd.N_form h (by omega)
  injection e with e1 e2 e3
  subst e1
  obtain ⟨ad, cs, ea, hcl, hK, hcc⟩ := Kd.C_get hr.2.2 z39 (k : Int) (by omega) (by omega)
  injection ea with ea
  subst ea
  have hx : Small (l.getD (k : Int).toNat z39) := hl _ (by simp [List.getD_eq_getElem?_getD, hk])
  generalize l.getD (k : Int).toNat z39 = x at *
  simp only [Int.toNat_natCast] at hcc
  have hcc' : ∀ j u, cs[j]? = some u → W.cell? ((⟨g, 0, none⟩ : Addr).add (k * 15 + j)) = some u := hcc
  obtain ⟨hK1, A5, n5, c5, A14, n14, c14, e5, e14, o5, o14⟩ := hK
  obtain ⟨B4, d4, B5, d5, B10, d10, B14, d14, rfl, l4, g4, l5, g5, l10, g10, l14, g14⟩ := k39_open hK1
  injection e5 with e5
  injection e14 with e14
  injection e5 with p1 p2 p3
  injection e14 with q1 q2 q3
  subst p1 p2 p3 q1 q2 q3
  unfold Small at hx
  refine ⟨⟨g, 0, none⟩, cells, (0, 0), B5, _, d5, B14, _, d14, rfl, hcells, ?_, ?_, l5, l14, by omega, by omega, o5, o14, h.1 g (by simp [Value.ownBlock])⟩
  · rw [← add_field _ _ 5 (by omega)]; exact hcc' 5 _ rfl
  · rw [← add_field _ _ 14 (by omega)]; exact hcc' 14 _ rfl
end Go.Proofs.Ytbkfdejcmimhgaa
