/- The bytes of a string; strings turned into rows of bytes. -/
import Derived.Test.YtalignlbbdeeiaaDoorProg
import Derived.WalkKit
import Derived.WalkLawsBesides
import Derived.Outline
import Derived.LoopTactic
import Derived.Lib.Hide
import Derived.Deep.QuietTactic
import Derived.BigQuiet
import Derived.Deep.LoopGhost
import Derived.Deep.DeepCutAuto
import Derived.Deep.CutBlock
import Derived.Deep.RegionHeld3
import Derived.Deep.RegionWith
import Derived.Deep.WholeRow
import Derived.Laws.Rows
import Derived.Laws.Tables
import Derived.Laws.ResultCell
import Derived.StillTailTactics
import Derived.Deep.DeepMust
import Derived.IntWalk
import Derived.KernelRfl
import Derived.Test.YtalignlbbdeeiaaDoorWWords
import Derived.Test.YtalignlbbdeeiaaDoorWLast
import Derived.Test.YtalignlbbdeeiaaDoorWMore
import Derived.RegionTactic
import Derived.Laws.IdiomStrings
import Derived.Test.YtalignlbbdeeiaaDoorHex
namespace Go.Proofs.YtalignlbbdeeiaaDoor
open Go.RowKit
open Go.Proofs.YtalignlbbdeeiaaDoorW.PrintWords
set_option linter.unusedVariables false
set_option linter.unusedSimpArgs false
/-- A string's bytes. -/
def byt (s : ByteArray) : List Int := s.data.toList.map fun b => (b.toNat : Int)
theorem byt_length (s : ByteArray) : (byt s).length = s.size := by rw [byt, List.length_map, Array.length_toList]; rfl
theorem byt_bytes (s : ByteArray) : Md5.Bytes (byt s) := by
  intro x hx
  simp only [byt, List.mem_map] at hx
  obtain ⟨b, _, rfl⟩ := hx
  have := b.toNat_lt
  omega
theorem CB_of_cells {w : World} {b t : Nat} {fr : Nat × Nat} {l : List Int} {cs : Array Value} (h : w.heap[b]? = some (.cells cs t fr)) (hcs : ∀ j, j < l.length → cs[j]? = some (.int .u8 (l.getD j 0))) (hl : l.length ≤ 1000000) : CB w (some ⟨b, 0, none⟩) l := by
  refine ⟨rfl, by omega, fun _ => ⟨_, rfl, fun j p hp => ⟨[.int .u8 p], rfl, rfl, fun i u hu => ?_⟩⟩⟩
  have e1 : (Kd.int .u8).sz = 1 := rfl
  cases i with
  | zero =>
    obtain rfl : Value.int .u8 p = u := by simpa using hu
    obtain ⟨hj, hp'⟩ := List.getElem?_eq_some_iff.1 hp
    rw [e1, add_plain, cell_of_row w b _ _ _ _ h]
    have := hcs j hj
    simp only [List.getD_eq_getElem?_getD, hp, Option.getD_some] at this
    simpa using this
  | succ i => simp at hu
theorem str_conv (s : ByteArray) (hl : s.size ≤ 1000000) : ∃ (cp : World → Nat) (W1 : World → World), ∀ w, (convert 9 22 (.string s)).run Tryd.prog w = .ok (.slice (some ⟨w.heap.size, 0, none⟩) s.size (cp w)) (W1 w) ∧ Below w.heap.size w (W1 w) ∧ CB (W1 w) (some ⟨w.heap.size, 0, none⟩) (byt s) ∧ s.size ≤ cp w ∧ w.heap.size < (W1 w).heap.size := by
  refine ⟨fun w => grownCap w s.size 0 5, fun w => _, fun w => ⟨run_bytes_of_string w 9 22 5 s Tryd.underlying9 Tryd.underlying22 Tryd.underlying5, ?_, ?_, ?_, ?_⟩⟩
  · exact ((Below.refl _ _).drew).alloc (Nat.le_refl _) _
  · refine CB_of_cells (heap_alloc_new w.drew _) (fun j hj => ?_) (by rw [byt_length]; exact hl)
    rw [byt_length] at hj
    rw [bytesRow_at s _ j hj]
    have e : (byt s)[j]? = some ((s.data[j]).toNat : Int) := by
      rw [byt, List.getElem?_map, Array.getElem?_toList, Array.getElem?_eq_getElem hj]; rfl
    rw [List.getD_eq_getElem?_getD, e]; rfl
  · exact grownCap_ge _ _ _ _
  · simp
end Go.Proofs.YtalignlbbdeeiaaDoor
