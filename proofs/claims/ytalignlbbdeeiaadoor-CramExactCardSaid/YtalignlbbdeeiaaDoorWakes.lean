/- The function wakes of the digest's laws answers yes. -/
import Derived.Test.YtalignlbbdeeiaaDoorProg
import Derived.WalkKit
import Derived.WalkLawsBesides
import Derived.Outline
import Derived.LoopTactic
import Derived.Lib.Hide
import Derived.Deep.QuietTactic
import Derived.BigQuiet
import Derived.Deep.LoopGhost
import Derived.Deep.DeepCutAuto
import Derived.Deep.CutBlock
import Derived.Deep.RegionHeld3
import Derived.Deep.RegionWith
import Derived.Deep.WholeRow
import Derived.Laws.Rows
import Derived.Laws.Tables
import Derived.Laws.ResultCell
import Derived.StillTailTactics
import Derived.Deep.DeepMust
import Derived.IntWalk
import Derived.KernelRfl
import Derived.Test.YtalignlbbdeeiaaDoorWWords
import Derived.Test.YtalignlbbdeeiaaDoorWLast
import Derived.Test.YtalignlbbdeeiaaDoorWMore
import Derived.RegionTactic
import Derived.Lib.SlBytesConst
import Derived.Test.YtalignlbbdeeiaaDoorDigS
import Derived.Test.YtalignlbbdeeiaaDoorEql
namespace Go.Proofs.YtalignlbbdeeiaaDoor
open Go.RowKit
open Go.Proofs.YtalignlbbdeeiaaDoorW.PrintWords
set_option linter.unusedVariables false
set_option linter.unusedSimpArgs false
theorem CB_of_row {w : World} {b t : Nat} {fr : Nat × Nat} {l : List Int} {cs : Array Value} (h : w.heap[b]? = some (.cells cs t fr)) (hcs : cs = (l.map (Value.int .u8)).toArray) (hl : l.length ≤ 1000000) : CB w (some ⟨b, 0, none⟩) l := by
  refine ⟨rfl, by omega, fun _ => ⟨_, rfl, fun j p hp => ⟨[.int .u8 p], rfl, rfl, fun i u hu => ?_⟩⟩⟩
  have e1 : (Kd.int .u8).sz = 1 := rfl
  cases i with
  | zero =>
    obtain rfl : Value.int .u8 p = u := by simpa using hu
    rw [e1, add_plain, cell_of_row w b _ _ _ _ h, hcs]
    simp [hp]
  | succ i => simp at hu
theorem cell16 {w : World} {b : Nat} {S : List Int} {oA : Array Value} {fr : Nat × Nat} (h : w.heap[b]? = some (.cells oA 49 fr)) (ho : (List.map (Value.int .u8) S).toArray = oA) (hS : S.length = 16) (i : Nat) (hi : i < 16) : w.cell? ⟨b, i, none⟩ = some (.int .u8 (S.getD i 0)) := by
  rw [cell_of_row w b _ _ _ _ h, ← ho]
  simp [List.getD_eq_getElem?_getD, hS, hi]
end Go.Proofs.YtalignlbbdeeiaaDoor
