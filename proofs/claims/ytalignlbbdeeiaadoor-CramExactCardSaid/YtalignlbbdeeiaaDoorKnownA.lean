/- Known sums, by calculation. -/
import Derived.Test.YtalignlbbdeeiaaDoorProg
import Derived.WalkKit
import Derived.WalkLawsBesides
import Derived.Outline
import Derived.LoopTactic
import Derived.Lib.Hide
import Derived.Deep.QuietTactic
import Derived.BigQuiet
import Derived.Deep.LoopGhost
import Derived.Deep.DeepCutAuto
import Derived.Deep.CutBlock
import Derived.Deep.RegionHeld3
import Derived.Deep.RegionWith
import Derived.Deep.WholeRow
import Derived.Laws.Rows
import Derived.Laws.Tables
import Derived.Laws.ResultCell
import Derived.StillTailTactics
import Derived.Deep.DeepMust
import Derived.IntWalk
import Derived.KernelRfl
import Derived.Test.YtalignlbbdeeiaaDoorWWords
import Derived.Test.YtalignlbbdeeiaaDoorWLast
import Derived.Test.YtalignlbbdeeiaaDoorWMore
import Derived.Test.YtalignlbbdeeiaaDoorStr
namespace Go.Proofs.YtalignlbbdeeiaaDoor
open Go.RowKit
set_option linter.unusedVariables false
set_option linter.unusedSimpArgs false
/-- The texts of the law of known sums, and what is told of their sums. -/
def tx : Nat → ByteArray
  | 0 => ⟨#[]⟩
  | 1 => ⟨#[97]⟩
  | 2 => ⟨#[109, 101, 115, 115, 97, 103, 101, 32, 100, 105, 103, 101, 115, 116]⟩
  | 3 => ⟨#[97, 98, 99, 100, 101, 102, 103, 104, 105, 106, 107, 108, 109, 110, 111, 112, 113, 114, 115, 116, 117, 118, 119, 120, 121, 122]⟩
  | _ => ⟨((List.replicate 8 [49, 50, 51, 52, 53, 54, 55, 56, 57, 48]).flatten).toArray⟩
def sm : Nat → ByteArray
  | 0 => ⟨#[100, 52, 49, 100, 56, 99, 100, 57, 56, 102, 48, 48, 98, 50, 48, 52, 101, 57, 56, 48, 48, 57, 57, 56, 101, 99, 102, 56, 52, 50, 55, 101]⟩
  | 1 => ⟨#[48, 99, 99, 49, 55, 53, 98, 57, 99, 48, 102, 49, 98, 54, 97, 56, 51, 49, 99, 51, 57, 57, 101, 50, 54, 57, 55, 55, 50, 54, 54, 49]⟩
  | 2 => ⟨#[102, 57, 54, 98, 54, 57, 55, 100, 55, 99, 98, 55, 57, 51, 56, 100, 53, 50, 53, 97, 50, 102, 51, 49, 97, 97, 102, 49, 54, 49, 100, 48]⟩
  | 3 => ⟨#[99, 51, 102, 99, 100, 51, 100, 55, 54, 49, 57, 50, 101, 52, 48, 48, 55, 100, 102, 98, 52, 57, 54, 99, 99, 97, 54, 55, 101, 49, 51, 98]⟩
  | _ => ⟨#[53, 55, 101, 100, 102, 52, 97, 50, 50, 98, 101, 51, 99, 57, 53, 53, 97, 99, 52, 57, 100, 97, 50, 101, 50, 49, 48, 55, 98, 54, 55, 97]⟩
def hi : List Int := [72, 105, 32, 84, 104, 101, 114, 101]
def jefe : List Int := [74, 101, 102, 101]
def what : List Int := [119, 104, 97, 116, 32, 100, 111, 32, 121, 97, 32, 119, 97, 110, 116, 32, 102, 111, 114, 32, 110, 111, 116, 104, 105, 110, 103, 63]
def hiSum : ByteArray := ⟨#[57, 50, 57, 52, 55, 50, 55, 97, 51, 54, 51, 56, 98, 98, 49, 99, 49, 51, 102, 52, 56, 101, 102, 56, 49, 53, 56, 98, 102, 99, 57, 100]⟩
def whatSum : ByteArray := ⟨#[55, 53, 48, 99, 55, 56, 51, 101, 54, 97, 98, 48, 98, 53, 48, 51, 101, 97, 97, 56, 54, 101, 51, 49, 48, 97, 53, 100, 98, 55, 51, 56]⟩
theorem known_sum (q : Nat) (h : q < 5) : (hexs (Md5.sum (byt (tx q)))).toArray = (sm q).data := by
  revert q; decide +kernel
theorem known_hi : (hexs (Md5.keyed (List.replicate 16 11) hi)).toArray = hiSum.data := by decide +kernel
theorem known_what : (hexs (Md5.keyed jefe what)).toArray = whatSum.data := by decide +kernel
theorem tx_size (q : Nat) (h : q < 5) : (tx q).size ≤ 1000 := by
  revert q; decide +kernel
def texts : Array Value := #[.string (tx 0), .string (tx 1), .string (tx 2), .string (tx 3), .string (tx 4)]
def sums : Array Value := #[.string (sm 0), .string (sm 1), .string (sm 2), .string (sm 3), .string (sm 4)]
theorem texts_at (q : Nat) (h : q < 5) : texts[q]? = some (.string (tx q)) := by
  match q, h with
  | 0, _ => rfl
  | 1, _ => rfl
  | 2, _ => rfl
  | 3, _ => rfl
  | 4, _ => rfl
theorem sums_at (q : Nat) (h : q < 5) : sums[q]? = some (.string (sm q)) := by
  match q, h with
  | 0, _ => rfl
  | 1, _ => rfl
  | 2, _ => rfl
  | 3, _ => rfl
  | 4, _ => rfl
end Go.Proofs.YtalignlbbdeeiaaDoor
