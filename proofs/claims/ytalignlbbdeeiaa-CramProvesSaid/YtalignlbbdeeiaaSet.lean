/- A string turned into bytes that are written; the string of bytes. -/
import Derived.Test.YtalignlbbdeeiaaProg
import Derived.WalkKit
import Derived.WalkLawsBesides
import Derived.Outline
import Derived.LoopTactic
import Derived.Lib.Hide
import Derived.Deep.QuietTactic
import Derived.BigQuiet
import Derived.Deep.LoopGhost
import Derived.Deep.DeepCutAuto
import Derived.Deep.CutBlock
import Derived.Deep.RegionHeld3
import Derived.Deep.RegionWith
import Derived.Deep.WholeRow
import Derived.Laws.Rows
import Derived.Laws.Tables
import Derived.Laws.ResultCell
import Derived.StillTailTactics
import Derived.Deep.DeepMust
import Derived.IntWalk
import Derived.KernelRfl
import Derived.Test.YtalignlbbdeeiaaWWords
import Derived.Test.YtalignlbbdeeiaaWLast
import Derived.Test.YtalignlbbdeeiaaWMore
import Derived.RegionTactic
import Derived.Test.YtalignlbbdeeiaaEncInj
import Derived.Test.YtalignlbbdeeiaaWakeB
namespace Go.Proofs.Ytalignlbbdeeiaa
open Go.RowKit
open Go.Proofs.YtalignlbbdeeiaaW.PrintWords
set_option linter.unusedVariables false
set_option linter.unusedSimpArgs false
theorem frozen_range {w : World} {b j k m t : Nat} {cs : Array Value} (h : w.heap[b]? = some (.cells cs t (k, m))) (hj : j < k) : w.frozen? ⟨b, j, none⟩ = false := by
  simp [World.frozen?, h]
  try omega
theorem str_conv2 (s : ByteArray) (hl : s.size ≤ 1000000) : ∃ (cp : World → Nat) (W1 : World → World) (cs : World → Array Value) (kk : World → Nat), ∀ w, (convert 9 22 (.string s)).run Try.prog w = .ok (.slice (some ⟨w.heap.size, 0, none⟩) s.size (cp w)) (W1 w) ∧ Below w.heap.size w (W1 w) ∧ (W1 w).heap[w.heap.size]? = some (.cells (cs w) 5 (kk w, kk w + 1)) ∧ (∀ j, j < s.size → (cs w)[j]? = some (.int .u8 ((byt s).getD j 0))) ∧ s.size ≤ kk w ∧ s.size ≤ cp w := by
  refine ⟨fun w => grownCap w s.size 0 5, fun w => _, fun w => bytesRow s (grownCap w s.size 0 5), fun w => (bytesRow s (grownCap w s.size 0 5)).size, fun w => ⟨run_bytes_of_string w 9 22 5 s Try.underlying9 Try.underlying22 Try.underlying5, ?_, ?_, ?_, ?_, ?_⟩⟩
  · exact ((Below.refl _ _).drew).alloc (Nat.le_refl _) _
  · exact heap_alloc_new w.drew _
  · intro j hj
    rw [bytesRow_at s _ j hj]
    have e : (byt s)[j]? = some ((s.data[j]).toNat : Int) := by
      rw [byt, List.getElem?_map, Array.getElem?_toList, Array.getElem?_eq_getElem hj]; rfl
    rw [List.getD_eq_getElem?_getD, e]; rfl
  · simp only [bytesRow]
    simp
  · exact grownCap_ge _ _ _ _
theorem byt_str (l : List Int) (hb : Md5.Bytes l) : byt (strOfNums l) = l := by
  simp only [byt, strOfNums]
  rw [List.map_map]
  conv => rhs; rw [← List.map_id l]
  apply List.map_congr_left
  intro x hx
  have := hb x hx
  simp
  omega
theorem xor_one (y : Int) (h0 : 0 ≤ y) (h1 : y < 256) : 0 ≤ bits .xor .u8 y 1 ∧ bits .xor .u8 y 1 < 256 ∧ bits .xor .u8 y 1 ≠ y := by
  obtain ⟨n, rfl⟩ := Int.eq_ofNat_of_zero_le h0
  have hn : n < 256 := by omega
  clear h0 h1
  revert n
  decide +kernel
theorem set_ne (l : List Int) (q : Nat) (y : Int) (hq : q < l.length) (hy : y ≠ l.getD q 0) : l.set q y ≠ l := by
  intro h
  have := congrArg (fun x => x.getD q 0) h
  simp [List.getD_eq_getElem?_getD, hq] at this
  simp [List.getD_eq_getElem?_getD, hq] at hy
  exact hy this
end Go.Proofs.Ytalignlbbdeeiaa
