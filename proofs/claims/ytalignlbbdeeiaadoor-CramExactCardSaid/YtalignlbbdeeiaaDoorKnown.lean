/- The walk of the law of known sums: it answers yes. -/
import Derived.Test.YtalignlbbdeeiaaDoorProg
import Derived.WalkKit
import Derived.WalkLawsBesides
import Derived.Outline
import Derived.LoopTactic
import Derived.Lib.Hide
import Derived.Deep.QuietTactic
import Derived.BigQuiet
import Derived.Deep.LoopGhost
import Derived.Deep.DeepCutAuto
import Derived.Deep.CutBlock
import Derived.Deep.RegionHeld3
import Derived.Deep.RegionWith
import Derived.Deep.WholeRow
import Derived.Laws.Rows
import Derived.Laws.Tables
import Derived.Laws.ResultCell
import Derived.StillTailTactics
import Derived.Deep.DeepMust
import Derived.IntWalk
import Derived.KernelRfl
import Derived.Test.YtalignlbbdeeiaaDoorWWords
import Derived.Test.YtalignlbbdeeiaaDoorWLast
import Derived.Test.YtalignlbbdeeiaaDoorWMore
import Derived.RegionTactic
import Derived.Lib.SmallJoins
import Derived.Test.YtalignlbbdeeiaaDoorKeys
import Derived.Test.YtalignlbbdeeiaaDoorKnownA
namespace Go.Proofs.YtalignlbbdeeiaaDoor
open Go.RowKit
open Go.Proofs.YtalignlbbdeeiaaDoorW.PrintWords
set_option linter.unusedVariables false
set_option linter.unusedSimpArgs false
theorem keep_blk {w w' : World} {b : Nat} {o : Obj} (h : w.heap[b]? = some o) (hb : Below w.heap.size w w') : w'.heap[b]? = some o := by
  rw [hb.block b ?_]
  · exact h
  · rcases Nat.lt_or_ge b w.heap.size with h' | h'
    · exact h'
    · rw [Array.getElem?_eq_none h'] at h; cases h
theorem lt_blk {w : World} {b : Nat} {o : Obj} (h : w.heap[b]? = some o) : b < w.heap.size := by
  rcases Nat.lt_or_ge b w.heap.size with h' | h'
  · exact h'
  · rw [Array.getElem?_eq_none h'] at h; cases h
def six (x0 x1 x2 x3 x4 x5 : Value) : Nat → Value
  | 0 => x0
  | 1 => x1
  | 2 => x2
  | 3 => x3
  | 4 => x4
  | _ => x5
def KnownFacts (v0 v1 v2 v3 v4 : Value) : Nat → Value → World → Prop
  | 0, v, _ => v = v0
  | 1, v, _ => v = v1
  | 2, v, _ => v = v2
  | 3, v, _ => v = v3
  | 4, v, _ => v = v4
  | 5, v, _ => v = v1
  | _, _, _ => True
theorem KnownFacts.stab (v0 v1 v2 v3 v4 : Value) : ∀ i v w1 w2, KnownFacts v0 v1 v2 v3 v4 i v w1 → Below w1.heap.size w1 w2 → KnownFacts v0 v1 v2 v3 v4 i v w2
  | 0, _, _, _, h, _ => h
  | 1, _, _, _, h, _ => h
  | 2, _, _, _, h, _ => h
  | 3, _, _, _, h, _ => h
  | 4, _, _, _, h, _ => h
  | 5, _, _, _, h, _ => h
  | _ + 6, _, _, _, _, _ => trivial
theorem hexs_data {l : List Int} {E : ByteArray} (h : (hexs l).toArray = E.data) : (⟨(hexs l).toArray⟩ : ByteArray) = E := by rw [h]
theorem hex_at (A : Option Addr) (c n : Nat) (l : List Int) (E : ByteArray) (w : World) (hn : l.length = n) (hE : (⟨(hexs l).toArray⟩ : ByteArray) = E) (hr : CB w A l) (hb : Md5.Bytes l) (hl : l.length ≤ 100000) :
    Calls Tryd.prog 15 #[.slice A n c] w fun e w' => e = .returned (.string E) ∧ Below w.heap.size w w' := by
  subst hn hE
  refine (hex_any A c l w hr hb hl).mono ?_
  rintro e w' ⟨rfl, n, rfl⟩
  exact ⟨rfl, pw_below_drewN (Below.refl _ _) n⟩
end Go.Proofs.YtalignlbbdeeiaaDoor
