/- What the laws of a diary share: puts that fit, that do not. -/
import Derived.Test.YtbkfdejcmimhgaaProg
import Derived.WalkKit
import Derived.WalkLawsBesides
import Derived.Outline
import Derived.LoopTactic
import Derived.Lib.Hide
import Derived.Deep.QuietTactic
import Derived.BigQuiet
import Derived.Deep.LoopGhost
import Derived.Deep.DeepCutAuto
import Derived.Deep.CutBlock
import Derived.Deep.RegionHeld3
import Derived.Deep.RegionWith
import Derived.Deep.WholeRow
import Derived.Laws.Rows
import Derived.Laws.Tables
import Derived.Laws.ResultCell
import Derived.StillTailTactics
import Derived.Deep.DeepMust
import Derived.IntWalk
import Derived.KernelRfl
import Derived.Test.YtbkfdejcmimhgaaVa
import Derived.RegionTactic
import Derived.Test.YtbkfdejcmimhgaaDiLa
namespace Go.Proofs.Ytbkfdejcmimhgaa
open Go.RowKit Go.Proofs.YtbkfdejcmimhgaaW.PrintWords Go.Proofs.Ytbkfdejcmimhgaa.PDiaryExact
set_option linter.unusedVariables false
set_option linter.unusedSimpArgs false
/-- Where DiaryTwice stands behind i records. -/
structure Tw (l : List S39) (keep : Int) (s : DSt) (i : Nat) (kq : Int) : Prop where
  lim : s.limit = 131072
  off : s.off = false
  life : s.life = i
  armed : s.armed = 0
  kept : s.kept = kq
  safe : s.safe = s.recs.length
  len : s.recs.length = if 0 < keep then i else 0
  fine : Fine s.recs
  kq0 : 0 ≤ kq
  kq1 : kq ≤ i
theorem Tw.ok {l : List S39} {keep : Int} {s : DSt} {i : Nat} {kq : Int} (h : Tw l keep s i kq) (hi : i ≤ 60) : s.Ok := by
  have h1 := h.life; have h2 := h.kept; have h3 := h.safe; have h4 := h.kq0; have h5 := h.kq1
  have h6 : s.recs.length ≤ i := by rw [h.len]; split <;> omega
  unfold DSt.Ok
  omega
theorem Tw.ar {l : List S39} {keep : Int} {s : DSt} {i : Nat} {kq : Int} (h : Tw l keep s i kq) : s.Armed := by
  have := h.armed
  unfold DSt.Armed; omega
theorem put_full (s : DSt) (x : S39) (ho : s.off = false) (h : s.limit - roomsOf s.recs < room x) : s.put x = (8, s) := by
  unfold DSt.put
  rw [if_neg (by rw [ho]; decide), if_pos h]
theorem put_fits (s : DSt) (x : S39) (ho : s.off = false) (ha : s.armed = 0) (h : ¬ s.limit - roomsOf s.recs < room x) : s.put x = (0, { s with recs := s.recs ++ [x] }) := by
  unfold DSt.put
  rw [if_neg (by rw [ho]; decide), if_neg h]
  have h1 : (s.add x).hit = false := by unfold DSt.hit DSt.add; simp [ha]
  have h2 : (s.add x).tick = s.add x := by unfold DSt.tick DSt.add; simp [ha]
  rw [if_neg (by rw [h1]; decide), h2]
  rfl
theorem Fine.append {l k : List S39} (h1 : Fine l) (h2 : Fine k) : Fine (l ++ k) := fun x hx => by
  rcases List.mem_append.1 hx with h | h
  · exact h1 x h
  · exact h2 x h
theorem Fine.take {l : List S39} (h : Fine l) (n : Nat) : Fine (l.take n) := fun x hx => h x (List.mem_of_mem_take hx)
theorem Fine.one {x : S39} (h1 : Lite x) (h2 : x.f1.f4.size ≤ 1000000) : Fine [x] := fun y hy => by
  obtain rfl : y = x := by simpa using hy
  exact ⟨h1, h2⟩
theorem DSt.crash_twice (s : DSt) (k : Int) : (s.crash k).crash k = s.crash k := by
  have h : (s.crash k).off = true := by
    unfold DSt.crash
    by_cases h : s.off = true
    · rw [if_pos h]; exact h
    · rw [if_neg h]
  generalize s.crash k = t at h ⊢
  unfold DSt.crash
  rw [if_pos h]
def DSt.on (s : DSt) : DSt := { s with off := false }
theorem starton_at (B : Nat) (W : World) (g : Nat) (s : DSt) (h : Db B W g s) (hB : B ≤ W.heap.size) : Calls Try.prog 16 #[.pointer (some ⟨g, 0, none⟩)] W fun e w' => (∃ v, e = .returned v) ∧ Db B w' g s.on ∧ Below B W w' := start_at B W g s h hB
theorem Tw.step {l : List S39} {keep : Int} {s : DSt} {i : Nat} {kq : Int} (h : Tw l keep s i kq) (x : S39) (hx : Fine [x]) : s.put x = (8, s) ∨ ∃ s1, s.put x = (0, s1) ∧ s1.Armed ∧ (i < 60 → s1.Ok) ∧ (i < 60 → (s1.crash keep).Ok) ∧ (s1.crash keep).crash keep = s1.crash keep ∧ Tw l keep (s1.crash keep).on (i + 1) (if 0 < keep then kq + 1 else kq) := by
  by_cases hr : s.limit - roomsOf s.recs < room x
  · exact .inl (put_full s x h.off hr)
  · refine .inr ⟨_, put_fits s x h.off h.armed hr, by have := h.ar; exact this, ?_, ?_, DSt.crash_twice _ _, ?_⟩
    · intro hi
      have h1 := h.ok (by omega)
      unfold DSt.Ok at h1 ⊢
      simp only [List.length_append, List.length_singleton]
      push_cast
      have := h.len
      split at this <;> omega
    · intro hi
      have h1 := h.life; have h2 := h.kept; have h3 := h.safe; have h4 := h.kq0; have h5 := h.kq1; have h6 := h.len
      have hoff : ¬ s.off = true := by rw [h.off]; decide
      unfold DSt.crash DSt.Ok DSt.stay
      simp only [if_neg hoff, List.length_take, List.length_append, List.length_singleton]
      push_cast
      split at h6 <;> omega
    · have h1 := h.life; have h2 := h.kept; have h3 := h.safe; have h4 := h.kq0; have h5 := h.kq1; have h6 := h.len
      have hoff : ¬ s.off = true := by rw [h.off]; decide
      have hst : DSt.stay { s with recs := s.recs ++ [x] } keep = if 0 < keep then 1 else 0 := by
        unfold DSt.stay
        simp only [List.length_append, List.length_singleton]
        push_cast
        split <;> omega
      have e : DSt.crash { s with recs := s.recs ++ [x] } keep = { s with recs := (s.recs ++ [x]).take (s.safe + (if 0 < keep then 1 else 0)).toNat, kept := s.kept + (if 0 < keep then 1 else 0), off := true, safe := s.safe + (if 0 < keep then 1 else 0), armed := 0, life := s.life + 1 } := by
        conv => lhs; unfold DSt.crash
        rw [if_neg hoff, hst]
      rw [e]
      unfold DSt.on
      have hfa := (h.fine.append hx)
      refine ⟨h.lim, rfl, ?_, rfl, ?_, ?_, ?_, hfa.take _, ?_, ?_⟩
      · show s.life + 1 = ((i + 1 : Nat) : Int); push_cast; omega
      · show s.kept + _ = _; split <;> omega
      · simp only [List.length_take, List.length_append, List.length_singleton]
        split at h6 <;> split <;> omega
      · simp only [List.length_take, List.length_append, List.length_singleton]
        split at h6 <;> split <;> omega
      · split <;> omega
      · push_cast; split <;> omega
theorem Tw.sync {l : List S39} {keep : Int} {s : DSt} {i : Nat} {kq : Int} (h : Tw l keep s i kq) : ∃ s2, s.sync = (0, s2) ∧ Tw l keep s2 i 0 := by
  have h1 : s.hit = false := by unfold DSt.hit; simp [h.armed]
  have h2 : s.tick = s := by unfold DSt.tick; simp [h.armed]
  refine ⟨{ s.tick with safe := s.recs.length, kept := 0 }, ?_, ?_⟩
  · unfold DSt.sync
    rw [if_neg (by rw [h.off]; decide), if_neg (by rw [h1]; decide)]
  · rw [h2]
    exact ⟨h.lim, h.off, h.life, h.armed, rfl, rfl, h.len, h.fine, Int.le_refl _, by omega⟩
theorem dkept_at (W : World) (S : Nat → Prop) (g : Nat) (s : DSt) (n : Int) (hn : s.kept = n) (h : Dy W S g s) : Calls Try.prog 20 #[.pointer (some ⟨g, 0, none⟩)] W fun e w' => e = .returned (.int .i64 n) ∧ W = w' := by
  subst hn
  exact dkept W S g s h
theorem dlen_at (W : World) (S : Nat → Prop) (g : Nat) (s : DSt) (n : Int) (hn : (s.recs.length : Int) = n) (h : Dy W S g s) : Calls Try.prog 23 #[.pointer (some ⟨g, 0, none⟩)] W fun e w' => e = .returned (.int .i64 n) ∧ W = w' := by
  subst hn
  exact dlen W S g s h
theorem dsafe_at (W : World) (S : Nat → Prop) (g : Nat) (s : DSt) (n : Int) (hn : s.safe = n) (h : Dy W S g s) : Calls Try.prog 25 #[.pointer (some ⟨g, 0, none⟩)] W fun e w' => e = .returned (.int .i64 n) ∧ W = w' := by
  subst hn
  exact dsafe W S g s h
end Go.Proofs.Ytbkfdejcmimhgaa
