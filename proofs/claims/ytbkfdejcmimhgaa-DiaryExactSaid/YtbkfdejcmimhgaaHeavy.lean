/- Heavy, in plain Lean: it ends; what it lets by is fine. -/
import Derived.Test.YtbkfdejcmimhgaaProg
import Derived.WalkKit
import Derived.WalkLawsBesides
import Derived.Outline
import Derived.LoopTactic
import Derived.Lib.Hide
import Derived.Deep.QuietTactic
import Derived.BigQuiet
import Derived.Deep.LoopGhost
import Derived.Deep.DeepCutAuto
import Derived.Deep.CutBlock
import Derived.Deep.RegionHeld3
import Derived.Deep.RegionWith
import Derived.Deep.WholeRow
import Derived.Laws.Rows
import Derived.Laws.Tables
import Derived.Laws.ResultCell
import Derived.StillTailTactics
import Derived.Deep.DeepMust
import Derived.IntWalk
import Derived.KernelRfl
import Derived.Test.YtbkfdejcmimhgaaVa
import Derived.Test.YtbkfdejcmimhgaaOpen
import Derived.Test.YtbkfdejcmimhgaaDiR
import Derived.Test.YtbkfdejcmimhgaaVb
namespace Go.Proofs.Ytbkfdejcmimhgaa
open Go.RowKit Go.Proofs.YtbkfdejcmimhgaaW.PrintWords Go.Proofs.Ytbkfdejcmimhgaa.PDiaryExact
set_option linter.unusedVariables false
set_option linter.unusedSimpArgs false
def bigS : Int := 140737488351232
theorem wr_id' (y : Int) (h0 : 0 ≤ y) (h1 : y ≤ 9000000000000000000) : wrap64 y = y := by unfold wrap64; omega
set_option maxRecDepth 100000 in
/-- The paths of one mail. -/
theorem h17_l1 (m : S36) (hG : ∀ z ∈ m.f1, Ok32 z) (hl : m.f1.length ≤ 40) : ∀ (d i k : Nat) (n : Int), d = m.f1.length - i → i ≤ m.f1.length → d + 3 < k → 0 ≤ n → n ≤ 600000000000000 + (i : Int) * 281474976710656 → ∃ b, wherrylaw17_Heavy.l1 k [m] n 0 i = some b ∧ (b = false → n ≤ 20000) := by
  intro d
  induction d with
  | zero =>
    intro i k n hd hi hk h0 h1
    obtain ⟨k, rfl⟩ : ∃ j, k = j + 2 := ⟨k - 2, by omega⟩
    have him : i = m.f1.length := by omega
    have e : wrap64 ((0 : Int) + 1) = 1 := wr_id' _ (by decide) (by decide)
    simp only [wherrylaw17_Heavy.l1, wherrylaw17_Heavy.l0]
    have hr : rd_T36 [m] 0 = m := rfl
    rw [if_pos (by omega), if_pos (by simp), hr, if_neg (by omega), e, if_neg (by simp)]
    exact ⟨_, rfl, fun h => by simpa using h⟩
  | succ d ih =>
    intro i k n hd hi hk h0 h1
    obtain ⟨k, rfl⟩ : ∃ j, k = j + 1 := ⟨k - 1, by omega⟩
    have him : i < m.f1.length := by omega
    have hr : rd_T36 [m] 0 = m := rfl
    have hz : rd_T32 m.f1 (i : Int) ∈ m.f1 := by
      have : rd_T32 m.f1 (i : Int) = m.f1.getD i z32 := rfl
      rw [this]; simp [List.getD_eq_getElem?_getD, him]
    obtain ⟨z, hze⟩ : ∃ z, rd_T32 m.f1 (i : Int) = z := ⟨_, rfl⟩
    obtain ⟨_, g1, g2⟩ := hG _ hz
    simp only [wherrylaw17_Heavy.l1]
    rw [if_pos (by omega), if_pos (by simp), hr, if_pos (by omega), if_pos (by omega)]
    rw [hze] at g1 g2 ⊢
    have g1' : (z.f1.size : Int) ≤ 140737488351232 := by have : z.f1.size ≤ 140737488351232 := g1; omega
    have g2' : (z.f2.size : Int) ≤ 140737488351232 := by have : z.f2.size ≤ 140737488351232 := g2; omega
    have hb : (i : Int) * 281474976710656 ≤ 40 * 281474976710656 := by omega
    rw [wr_id' (n + z.f1.size) (by omega) (by omega), wr_id' (n + z.f1.size + z.f2.size) (by omega) (by omega), wr_id' ((i : Int) + 1) (by omega) (by omega)]
    have e : ((i : Int) + 1) = ((i + 1 : Nat) : Int) := by push_cast; rfl
    rw [e]
    obtain ⟨b, h2, h3⟩ := ih (i + 1) k (n + z.f1.size + z.f2.size) (by omega) (by omega) (by omega) (by omega) (by push_cast; omega)
    exact ⟨b, h2, fun hb => by have := h3 hb; omega⟩
set_option maxRecDepth 100000 in
theorem h17_one (m : S36) (hG : Ok36 m) (k : Nat) (hk : 50 < k) : ∃ b, wherrylaw17_Heavy.f k [m] = some b ∧ (b = false → m.f1.length ≤ 40 ∧ m.f2.length ≤ 20000 ∧ m.f4.size ≤ 20000) := by
  obtain ⟨⟨_, a1, a2⟩, ⟨b1, b2⟩, ⟨c1, _⟩, _, d1, _⟩ := hG
  obtain ⟨k, rfl⟩ : ∃ j, k = j + 1 := ⟨k - 1, by omega⟩
  have hr : rd_T36 [m] 0 = m := rfl
  unfold wherrylaw17_Heavy.f
  rw [if_neg (by simp)]
  simp only [wherrylaw17_Heavy.l0]
  rw [if_pos (by simp), if_pos (by omega), hr]
  by_cases h40 : (m.f1.length : Int) > 40
  · rw [if_pos h40]
    exact ⟨true, rfl, fun h => by cases h⟩
  · rw [if_neg h40]
    have a1' : (m.f0.f1.size : Int) ≤ 140737488351232 := by have : m.f0.f1.size ≤ 140737488351232 := a1; omega
    have a2' : (m.f0.f2.size : Int) ≤ 140737488351232 := by have : m.f0.f2.size ≤ 140737488351232 := a2; omega
    have c1' : (m.f2.length : Int) ≤ 140737488351232 := by have : m.f2.length ≤ 140737488351232 := c1; omega
    have d1' : (m.f4.size : Int) ≤ 140737488351232 := by have : m.f4.size ≤ 140737488351232 := d1; omega
    rw [wr_id' (0 + (m.f2.length : Int)) (by omega) (by omega), wr_id' (0 + (m.f2.length : Int) + (m.f4.size : Int)) (by omega) (by omega), wr_id' (0 + (m.f2.length : Int) + (m.f4.size : Int) + (m.f0.f1.size : Int)) (by omega) (by omega), wr_id' (0 + (m.f2.length : Int) + (m.f4.size : Int) + (m.f0.f1.size : Int) + (m.f0.f2.size : Int)) (by omega) (by omega)]
    obtain ⟨b, h1, h2⟩ := h17_l1 m b2 (by omega) (m.f1.length - 0) 0 k (0 + (m.f2.length : Int) + (m.f4.size : Int) + (m.f0.f1.size : Int) + (m.f0.f2.size : Int)) rfl (by omega) (by omega) (by omega) (by omega)
    exact ⟨b, h1, fun hb => by have := h2 hb; omega⟩
/-- A record that is played. -/
def Small (x : S39) : Prop := x.f7.length ≤ 600 ∧ x.f3.length ≤ 60 ∧ x.f1.f1.length ≤ 40 ∧ x.f1.f2.length ≤ 20000 ∧ x.f1.f4.size ≤ 20000
theorem h18_l0 (l : List S39) (hG : ∀ z ∈ l, Ok39 z) (hl : l.length ≤ 60) : ∀ (d i k : Nat), d = l.length - i → i ≤ l.length → d + 60 < k → ∃ b, wherrylaw18_Heavy.l0 k l i = some b ∧ (b = false → ∀ j, i ≤ j → j < l.length → Small (l.getD j z39)) := by
  intro d
  induction d with
  | zero =>
    intro i k hd hi hk
    obtain ⟨k, rfl⟩ : ∃ j, k = j + 1 := ⟨k - 1, by omega⟩
    simp only [wherrylaw18_Heavy.l0]
    rw [if_neg (by omega)]
    exact ⟨false, rfl, fun _ j h1 h2 => by omega⟩
  | succ d ih =>
    intro i k hd hi hk
    obtain ⟨k, rfl⟩ : ∃ j, k = j + 1 := ⟨k - 1, by omega⟩
    have hil : i < l.length := by omega
    simp only [wherrylaw18_Heavy.l0]
    rw [if_pos (by omega), if_pos (by omega)]
    have ex : rd_T39 l (i : Int) = l.getD i z39 := rfl
    have hx : l.getD i z39 ∈ l := by simp [List.getD_eq_getElem?_getD, hil]
    obtain ⟨_, g36, _, _⟩ := hG _ hx
    rw [ex]
    obtain ⟨x, hxe⟩ : ∃ x, l.getD i z39 = x := ⟨_, rfl⟩
    rw [hxe] at g36 ⊢
    by_cases h7 : (x.f7.length : Int) > 600
    · rw [if_pos h7]; exact ⟨true, rfl, fun h => by cases h⟩
    · rw [if_neg h7]
      by_cases h3 : (x.f3.length : Int) > 60
      · rw [if_pos h3]; exact ⟨true, rfl, fun h => by cases h⟩
      · rw [if_neg h3]
        obtain ⟨b, hb, hb2⟩ := h17_one x.f1 g36 k (by omega)
        have hb' : wherrylaw17_Heavy.f k [(⟨(⟨x.f1.f0.f0, x.f1.f0.f1, x.f1.f0.f2⟩ : S32), x.f1.f1, x.f1.f2, x.f1.f3, x.f1.f4, x.f1.f5⟩ : S36)] = some b := hb
        rw [hb', Option.bind_some]
        cases b with
        | true => exact ⟨true, rfl, fun h => by cases h⟩
        | false =>
          obtain ⟨b', h5, h6⟩ := ih (i + 1) k (by omega) (by omega) (by omega)
          rw [if_neg (by decide), wr_id' _ (by omega) (by omega)]
          refine ⟨b', h5, fun hf j h1 h2 => ?_⟩
          by_cases hji : j = i
          · subst hji
            rw [hxe]
            obtain ⟨k1, k2, k3⟩ := hb2 rfl
            exact ⟨by omega, by omega, k1, k2, k3⟩
          · exact h6 hf j (by omega) h2
/-- Heavy ends; what it lets by is few and small. -/
theorem h18 (l : List S39) (hG : ∀ z ∈ l, Ok39 z) : ∃ b, wherrylaw18_Heavy.f 200 l = some b ∧ (b = false → l.length ≤ 60 ∧ ∀ x ∈ l, Small x) := by
  unfold wherrylaw18_Heavy.f
  by_cases h : (l.length : Int) > 60
  · rw [if_pos h]; exact ⟨true, rfl, fun h => by cases h⟩
  · rw [if_neg h]
    obtain ⟨b, h1, h2⟩ := h18_l0 l hG (by omega) (l.length - 0) 0 200 rfl (by omega) (by omega)
    refine ⟨b, h1, fun hf => ⟨by omega, fun x hx => ?_⟩⟩
    obtain ⟨j, hj, rfl⟩ := List.getElem_of_mem hx
    have := h2 hf j (by omega) hj
    rwa [List.getD_eq_getElem?_getD, List.getElem?_eq_getElem hj] at this
theorem Small.lite {x : S39} (h : Small x) : Lite x := ⟨by have := h; unfold Small at this; omega, by have := h; unfold Small at this; omega, by have := h; unfold Small at this; omega, by have := h; unfold Small at this; omega⟩
theorem Small.helo {x : S39} (h : Small x) : x.f1.f4.size ≤ 1000000 := by have := h; unfold Small at this; omega
theorem fine_of_small {l : List S39} (h : ∀ x ∈ l, Small x) : Fine l := fun x hx => ⟨(h x hx).lite, (h x hx).helo⟩
end Go.Proofs.Ytbkfdejcmimhgaa
