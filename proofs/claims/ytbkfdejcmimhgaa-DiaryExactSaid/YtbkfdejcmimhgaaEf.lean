/- Rows of bytes that may be written over: wherrykeep's Over. -/
import Derived.Test.YtbkfdejcmimhgaaProg
import Derived.WalkKit
import Derived.WalkLawsBesides
import Derived.Outline
import Derived.LoopTactic
import Derived.Lib.Hide
import Derived.Deep.QuietTactic
import Derived.BigQuiet
import Derived.Deep.LoopGhost
import Derived.Deep.DeepCutAuto
import Derived.Deep.CutBlock
import Derived.Deep.RegionHeld3
import Derived.Deep.RegionWith
import Derived.Deep.WholeRow
import Derived.Laws.Rows
import Derived.Laws.Tables
import Derived.Laws.ResultCell
import Derived.StillTailTactics
import Derived.Deep.DeepMust
import Derived.IntWalk
import Derived.KernelRfl
import Derived.Test.YtbkfdejcmimhgaaVa
import Derived.RegionTactic
import Derived.Test.YtbkfdejcmimhgaaDiD
namespace Go.Proofs.Ytbkfdejcmimhgaa
open Go.RowKit Go.Proofs.YtbkfdejcmimhgaaW.PrintWords Go.Proofs.Ytbkfdejcmimhgaa.PDiaryExact
set_option linter.unusedVariables false
set_option linter.unusedSimpArgs false
/-- Only bytes were written over, in rows of S. -/
def Ow (S : Nat → Prop) (W W' : World) : Prop := Ch W W' S ∧ (∀ (b : Nat) (cells : Array Value), W.heap[b]? = some (.cells cells 5 (0, 0)) → ∃ cells' : Array Value, W'.heap[b]? = some (.cells cells' 5 (0, 0)) ∧ ∀ (j : Nat) (z : Int), cells[j]? = some (.int .u8 z) → ∃ z' : Int, cells'[j]? = some (.int .u8 z')) ∧ ∀ (b : Nat) (cells : Array Value) (t : TypeId) (fr : Nat × Nat), t ≠ 5 → W.heap[b]? = some (.cells cells t fr) → W'.heap[b]? = some (.cells cells t fr)
theorem Ow.refl (S : Nat → Prop) (W : World) : Ow S W W := ⟨Ch.refl _ _, fun b cells h => ⟨cells, h, fun j z hz => ⟨z, hz⟩⟩, fun b cells t fr _ h => h⟩
theorem Ow.trans {S : Nat → Prop} {W W1 W2 : World} (h : Ow S W W1) (k : Ow S W1 W2) : Ow S W W2 := by
  refine ⟨h.1.trans k.1 (fun _ hk => .inl hk), fun b cells hb => ?_, fun b cells t fr ht hb => k.2.2 b cells t fr ht (h.2.2 b cells t fr ht hb)⟩
  obtain ⟨c1, h1, e1⟩ := h.2.1 b cells hb
  obtain ⟨c2, h2, e2⟩ := k.2.1 b c1 h1
  refine ⟨c2, h2, fun j z hz => ?_⟩
  obtain ⟨z1, hz1⟩ := e1 j z hz
  exact e2 j z1 hz1
theorem Ow.of_below {S : Nat → Prop} {W W1 : World} (h : Below W.heap.size W W1) : Ow S W W1 := ⟨Ch.of_below h, fun b cells hb => ⟨cells, keep_blk hb h, fun j z hz => ⟨z, hz⟩⟩, fun b cells t fr _ hb => keep_blk hb h⟩
theorem Ow.set {S : Nat → Prop} {W : World} {b i : Nat} {cells : Array Value} {z0 z : Int} (hS : S b) (hb : W.heap[b]? = some (.cells cells 5 (0, 0))) (hi : cells[i]? = some (.int .u8 z0)) : Ow S W (W.setCell ⟨b, i, none⟩ (.int .u8 z)) := by
  refine ⟨Ch.set _ hS _ _, fun b' cells' hb' => ?_, fun b' cells' t fr ht hb' => ?_⟩
  · by_cases e : b' = b
    · subst e
      have hcc : cells' = cells := by rw [hb] at hb'; injection hb' with hb'; injection hb' with hb'; exact hb'.symm
      subst hcc
      refine ⟨_, heap_setCell_same _ _ _ _ _ _ hb, fun j y hy => ?_⟩
      by_cases ej : j = i
      · subst ej
        have hlt : j < cells'.size := (Array.getElem?_eq_some_iff.1 hy).1
        exact ⟨z, by simp [Array.getElem?_setIfInBounds, hlt]⟩
      · exact ⟨y, by rw [Array.getElem?_setIfInBounds_ne (fun h => ej h.symm)]; exact hy⟩
    · exact ⟨cells', (heap_setCell_other _ _ _ _ e).trans hb', fun j y hy => ⟨y, hy⟩⟩
  · by_cases e : b' = b
    · subst e
      rw [hb] at hb'
      injection hb' with hb'
      injection hb' with _ h5
      exact absurd h5.symm ht
    · exact (heap_setCell_other _ _ _ _ e).trans hb'
theorem OBs.ow {W W1 : World} {S T : Nat → Prop} {A : Option Addr} {n : Nat} (h : OBs W S A n) (hw : Ow T W W1) : OBs W1 S A n := by
  rcases h with h | ⟨b, cells, e, hS, hh, hc⟩
  · exact .inl h
  · obtain ⟨c1, h1, e1⟩ := hw.2.1 b cells hh
    refine .inr ⟨b, c1, e, hS, h1, fun j hj => ?_⟩
    obtain ⟨z, hz⟩ := hc j hj
    exact e1 j z hz
set_option maxRecDepth 100000 in
set_option maxHeartbeats 2000000 in
theorem over_any (W : World) (S : Nat → Prop) (A : Option Addr) (n c : Nat) (h : OBs W S A n) (hc : n ≤ c) (hn : n ≤ 1000000000) : Calls Try.prog 37 #[.slice A n c] W fun e w' => (∃ v, e = .returned v) ∧ Ow S W w' := by
  rcases h with rfl | ⟨b, cells, rfl, hS, hh, hcc⟩
  · go_enter Try.func37, Try.ntmps37
    go_wp2_with (fail)
    go_loopg [2] 0 (fun g v2 wr => v2 = .int .i64 0 ∧ Aside0 (Ow S W wr))
    case atStart => exact ⟨rfl, ⟨Ow.refl _ _⟩⟩
    case round =>
    obtain ⟨rfl, HW⟩ := hrel
    go_wp2_with (fail)
    go_end0
    exact ⟨⟨_, rfl⟩, HW.out⟩
  · have HH := Aside0.mk hh
    have HCC := Aside0.mk hcc
    clear hh hcc
    go_enter Try.func37, Try.ntmps37
    go_wp2_with (fail)
    go_loopg [2] n (fun g v2 wr => ∃ i : Nat, i ≤ n ∧ g + i = n ∧ v2 = .int .i64 i ∧ Aside0 (Ow S W wr))
    case atStart => exact ⟨0, by omega, by omega, rfl, ⟨Ow.refl _ _⟩⟩
    case round =>
    obtain ⟨i, hi, hg, rfl, HW⟩ := hrel
    by_cases hlt : i < n
    · have hlt' : (i : Int) < (n : Int) := by omega
      obtain ⟨cells1, h1, e1⟩ := HW.out.2.1 b cells HH.out
      obtain ⟨z0, hz0⟩ := HCC.out i hlt
      obtain ⟨z, hz⟩ := e1 i z0 hz0
      have q : wr.cell? ⟨b, i, none⟩ = some (.int .u8 z) := rc_cell h1 i _ hz
      have qf : ∀ j, wr.frozen? ⟨b, j, none⟩ = false := fun j => frozen_of_row _ _ _ _ _ h1
      have H1 := Aside0.mk h1
      have HZ := Aside0.mk hz
      clear h1 e1 hz hz0
      go_wp2_with (fail)
      go_roundg (gk - 1)
      case measure => omega
      case rel => exact ⟨i + 1, by omega, by omega, by go_num, ⟨HW.out.trans (Ow.set hS H1.out HZ.out)⟩⟩
    · have hlt' : ¬ (i : Int) < (n : Int) := by omega
      go_wp2_with (fail)
      go_end0
      exact ⟨⟨_, rfl⟩, HW.out⟩
end Go.Proofs.Ytbkfdejcmimhgaa
