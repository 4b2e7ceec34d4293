/- One word loaded, one word stored. -/
import Derived.Test.YtalignlbbdeeiaaDoorProg
import Derived.WalkKit
import Derived.WalkLawsBesides
import Derived.Outline
import Derived.LoopTactic
import Derived.Lib.Hide
import Derived.Deep.QuietTactic
import Derived.BigQuiet
import Derived.Deep.LoopGhost
import Derived.Deep.DeepCutAuto
import Derived.Deep.CutBlock
import Derived.Deep.RegionHeld3
import Derived.Deep.RegionWith
import Derived.Deep.WholeRow
import Derived.Laws.Rows
import Derived.Laws.Tables
import Derived.Laws.ResultCell
import Derived.StillTailTactics
import Derived.Deep.DeepMust
import Derived.IntWalk
import Derived.KernelRfl
import Derived.Test.YtalignlbbdeeiaaDoorWWords
import Derived.Test.YtalignlbbdeeiaaDoorWLast
import Derived.Test.YtalignlbbdeeiaaDoorWMore
import Derived.Test.YtalignlbbdeeiaaDoorDigR
namespace Go.Proofs.YtalignlbbdeeiaaDoor
open Go.RowKit
open Go.Proofs.YtalignlbbdeeiaaDoorW.PrintWords
set_option linter.unusedVariables false
set_option linter.unusedSimpArgs false
theorem ld_u32 {a : Act} {o : Oper} {w : World} {x : Operand} {ad : Addr} {n : Int} (hx : a.eval x = .pointer (some ad)) (ho : o.op = .load 67 x) (hc : w.cell? ad = some (.int .u32 n)) :
    (execOp a.eval o).run Tryd.prog w = .ok (.value (.int .u32 n)) w := by
  unfold execOp
  rw [ho]
  simp only [hx]
  go_simp
theorem st_u32 {a : Act} {o : Oper} {w : World} {x y : Operand} {ad : Addr} {n : Int} {v0 : Value} (hx : a.eval x = .pointer (some ad)) (hy : a.eval y = .int .u32 n) (ho : o.op = .store 67 x y) (hc : w.cell? ad = some v0) (hf : w.frozen? ad = false) :
    (execOp a.eval o).run Tryd.prog w = .ok .skip (w.setCell ad (.int .u32 n)) := by
  unfold execOp
  rw [ho]
  simp only [hx, hy]
  go_simp
end Go.Proofs.YtalignlbbdeeiaaDoor
