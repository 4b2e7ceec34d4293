/- The walk of the law of exact sums: it answers yes. -/
import Derived.Test.YtalignlbbdeeiaaDoorProg
import Derived.WalkKit
import Derived.WalkLawsBesides
import Derived.Outline
import Derived.LoopTactic
import Derived.Lib.Hide
import Derived.Deep.QuietTactic
import Derived.BigQuiet
import Derived.Deep.LoopGhost
import Derived.Deep.DeepCutAuto
import Derived.Deep.CutBlock
import Derived.Deep.RegionHeld3
import Derived.Deep.RegionWith
import Derived.Deep.WholeRow
import Derived.Laws.Rows
import Derived.Laws.Tables
import Derived.Laws.ResultCell
import Derived.StillTailTactics
import Derived.Deep.DeepMust
import Derived.IntWalk
import Derived.KernelRfl
import Derived.Test.YtalignlbbdeeiaaDoorWWords
import Derived.Test.YtalignlbbdeeiaaDoorWLast
import Derived.Test.YtalignlbbdeeiaaDoorWMore
import Derived.RegionTactic
import Derived.Test.YtalignlbbdeeiaaDoorRKey
namespace Go.Proofs.YtalignlbbdeeiaaDoor
open Go.RowKit
open Go.Proofs.YtalignlbbdeeiaaDoorW.PrintWords
set_option linter.unusedVariables false
set_option linter.unusedSimpArgs false
theorem sum_o (A : Option Addr) (c n : Nat) (l : List Int) (oA : Array Value) (w : World) (hn : l.length = n) (hS : ((Md5.sum l).map (Value.int .u8)).toArray = oA) (hr : CB w A l) (hc : l.length ≤ c) (hb : Md5.Bytes l) (hl : l.length ≤ 100000) :
    Calls Tryd.prog 33 #[.slice A n c] w fun e w' => e = .returned (.agg oA) ∧ Below w.heap.size w w' := by
  subst hn hS
  exact sum_any A c l w hr hc hb hl
theorem rkeyed_at (A B : Option Addr) (c d n m : Nat) (key text : List Int) (oA : Array Value) (w : World) (hn : key.length = n) (hm : text.length = m) (ho : ((Md5.keyed key text).map (Value.int .u8)).toArray = oA) (hk : CB w A key) (hkc : key.length ≤ c) (hkb : Md5.Bytes key) (hkl : key.length ≤ 10000) (ht : CB w B text) (htb : Md5.Bytes text) (htl : text.length ≤ 10000) :
    Calls Tryd.prog 23 #[.slice A n c, .slice B m d] w fun e w' => e = .returned (.agg oA) ∧ Below w.heap.size w w' := by
  subst hn hm ho
  exact rkeyed_any A B c d key text w hk hkc hkb hkl ht htb htl
end Go.Proofs.YtalignlbbdeeiaaDoor
