/- The walk of the law of keys: it answers yes. -/
import Derived.Test.YtalignlbbdeeiaaDoorProg
import Derived.WalkKit
import Derived.WalkLawsBesides
import Derived.Outline
import Derived.LoopTactic
import Derived.Lib.Hide
import Derived.Deep.QuietTactic
import Derived.BigQuiet
import Derived.Deep.LoopGhost
import Derived.Deep.DeepCutAuto
import Derived.Deep.CutBlock
import Derived.Deep.RegionHeld3
import Derived.Deep.RegionWith
import Derived.Deep.WholeRow
import Derived.Laws.Rows
import Derived.Laws.Tables
import Derived.Laws.ResultCell
import Derived.StillTailTactics
import Derived.Deep.DeepMust
import Derived.IntWalk
import Derived.KernelRfl
import Derived.Test.YtalignlbbdeeiaaDoorWWords
import Derived.Test.YtalignlbbdeeiaaDoorWLast
import Derived.Test.YtalignlbbdeeiaaDoorWMore
import Derived.RegionTactic
import Derived.Test.YtalignlbbdeeiaaDoorWakes
namespace Go.Proofs.YtalignlbbdeeiaaDoor
open Go.RowKit
open Go.Proofs.YtalignlbbdeeiaaDoorW.PrintWords
set_option linter.unusedVariables false
set_option linter.unusedSimpArgs false
theorem keyed_at (A B : Option Addr) (c d n m : Nat) (key text : List Int) (oA : Array Value) (w : World) (hn : key.length = n) (hm : text.length = m) (ho : ((Md5.keyed key text).map (Value.int .u8)).toArray = oA) (hk : CB w A key) (hkc : key.length ≤ c) (hkb : Md5.Bytes key) (hkl : key.length ≤ 10000) (ht : CB w B text) (htb : Md5.Bytes text) (htl : text.length ≤ 10000) :
    Calls Tryd.prog 25 #[.slice A n c, .slice B m d] w fun e w' => e = .returned (.agg oA) ∧ Below w.heap.size w w' := by
  subst hn hm ho
  exact keyed_any A B c d key text w hk hkc hkb hkl ht htb htl
theorem same16 (l : List Int) (oA : Array Value) (ho : (l.map (Value.int .u8)).toArray = oA) (hl : l.length = 16) (w : World) : (Op.equalIn 10000 49 (.agg oA) (.agg oA)).run Tryd.prog w = .ok true w := by
  subst ho
  have h := eql_bytes w 9998 49 5 16 l l Tryd.underlying49 Tryd.underlying5 (by kernel_rfl) hl hl
  simpa using h
theorem rounds_small (nn : Int) (m : Nat) (h1 : 1 ≤ m) (h2 : m ≤ 65) : ∃ q : Nat, wrap64 ((IntKind.u64.wrap nn).tmod (m : Int)) = q ∧ q < m := by
  have h0 : 0 ≤ IntKind.u64.wrap nn := by simp [IntKind.wrap, IntKind.signed, IntKind.bits]; omega
  rw [Int.tmod_eq_emod_of_nonneg h0]
  generalize IntKind.u64.wrap nn = x at *
  have h3 : 0 ≤ x % (m : Int) := Int.emod_nonneg _ (by omega)
  have h4 : x % (m : Int) < m := Int.emod_lt_of_pos _ (by omega)
  refine ⟨(x % (m : Int)).toNat, ?_, by omega⟩
  have : wrap64 (x % (m : Int)) = x % (m : Int) := by unfold wrap64; omega
  omega
def four (x0 x1 x2 x3 : Value) : Nat → Value
  | 0 => x0
  | 1 => x1
  | 2 => x2
  | _ => x3
/-- What the first four operations of the last region yield. -/
def KeyFacts (v0 v1 : Value) (oA : Array Value) : Nat → Value → World → Prop
  | 0, v, _ => v = v0
  | 1, v, _ => v = v1
  | 2, v, _ => v = .agg oA
  | 3, v, _ => v = .agg oA
  | _, _, _ => True
theorem KeyFacts.stab (v0 v1 : Value) (oA : Array Value) : ∀ i v w1 w2, KeyFacts v0 v1 oA i v w1 → Below w1.heap.size w1 w2 → KeyFacts v0 v1 oA i v w2
  | 0, _, _, _, h, _ => h
  | 1, _, _, _, h, _ => h
  | 2, _, _, _, h, _ => h
  | 3, _, _, _, h, _ => h
  | _ + 4, _, _, _, _, _ => trivial
end Go.Proofs.YtalignlbbdeeiaaDoor
