/-
  No cell of these rows narrows 'for every input' (looked for: loops, veiled, ifaces, maps, wideKeys, modest, calm, conditions, laid).
  DERIVED. THE GIVEN ROWS OF THIS SEAT. 5 by the template 'for every input the law returns true; each argument reads behind the call as it read before'; 0 by the template 'total and deterministic' (their statements: YtalignlbbdeeiaaTotals.lean).
  GIVEN WITH THE SEED: the statements are not yours to turn. If you find one false, say at which input.
  Laid BY PROGRAM, IN A SANDBOX (cutbox-rows.mjs): the forced cells as the released guide's own fill.sh prints them over the translation 3e6b99804bb8aa2f… (all of the seat's roots in one cut). By AI agents, Wed Nov 11 2026. No macro, syntax, notation, axiom, sorry.
-/
import Derived.Test.YtalignlbbdeeiaaChecked
import GoSem.Claim
import GoSem.ClaimJoined
import GoSem.ClaimMapViews
import Derived.JoinedTies
import Derived.KernelRfl
namespace Go.Proofs.Ytalignlbbdeeiaa
/- THE CELL 'sum', in the pinned program and in every row, IS THE sha256 OF THE DUMP (.gsa) THAT YtalignlbbdeeiaaProg.lean LOADS. Nothing in Lean hashes anything: it is a label: what it is worth is what the hold of that sum in a sandbox is worth. -/
noncomputable def Try.pinned : Pinned := { name := "ytalignlbbdeeiaa", sum := "3e6b99804bb8aa2f6ea9056a3eb76317334fe730566df7b23f396d4bd60163cb", checked := Try.checked }
namespace Rows
def none {H : Type} : Left H := { results := [], args := [] }

/-- 'wherrylaw09.DigestExact': WHATEVER THE INPUT: true; the input reads as it did. -/
def digestExactSpec : ChangeSpec := { name := "digestExact", fn := fun _ => fun
  | [d1, d2] => { results := [.lit (.bool true)], args := [d1, d2] }
  | _ => none }
def digestExactRow : OpenClaim := { program := "ytalignlbbdeeiaa", sum := "3e6b99804bb8aa2f6ea9056a3eb76317334fe730566df7b23f396d4bd60163cb", func := "wherry/wherrylaw09.DigestExact", spec := "digestExact", apart := false }
def DigestExactSaid : Prop := digestExactRow.holds Try.pinned (OpenSpec.ofChange digestExactSpec)

/-- ITS FALSE NEIGHBOUR: 'it returns false'. Refute it at one input. -/
def digestExactWrong : ChangeSpec := { name := "digestExact", fn := fun _ => fun
  | [d1, d2] => { results := [.lit (.bool false)], args := [d1, d2] }
  | _ => none }
def DigestExactWrongFalsely : Prop := digestExactRow.holds Try.pinned (OpenSpec.ofChange digestExactWrong)

/-- 'wherrylaw09.DigestKnown': WHATEVER THE INPUT: true; the input reads as it did. -/
def digestKnownSpec : ChangeSpec := { name := "digestKnown", fn := fun _ => fun
  | [d] => { results := [.lit (.bool true)], args := [d] }
  | _ => none }
def digestKnownRow : OpenClaim := { program := "ytalignlbbdeeiaa", sum := "3e6b99804bb8aa2f6ea9056a3eb76317334fe730566df7b23f396d4bd60163cb", func := "wherry/wherrylaw09.DigestKnown", spec := "digestKnown", apart := false }
def DigestKnownSaid : Prop := digestKnownRow.holds Try.pinned (OpenSpec.ofChange digestKnownSpec)

/-- ITS FALSE NEIGHBOUR: 'it returns false'. Refute it at one input. -/
def digestKnownWrong : ChangeSpec := { name := "digestKnown", fn := fun _ => fun
  | [d] => { results := [.lit (.bool false)], args := [d] }
  | _ => none }
def DigestKnownWrongFalsely : Prop := digestKnownRow.holds Try.pinned (OpenSpec.ofChange digestKnownWrong)

/-- 'wherrylaw09.DigestKeys': WHATEVER THE INPUT: true; the input reads as it did. -/
def digestKeysSpec : ChangeSpec := { name := "digestKeys", fn := fun _ => fun
  | [d1, d2, d3] => { results := [.lit (.bool true)], args := [d1, d2, d3] }
  | _ => none }
def digestKeysRow : OpenClaim := { program := "ytalignlbbdeeiaa", sum := "3e6b99804bb8aa2f6ea9056a3eb76317334fe730566df7b23f396d4bd60163cb", func := "wherry/wherrylaw09.DigestKeys", spec := "digestKeys", apart := false }
def DigestKeysSaid : Prop := digestKeysRow.holds Try.pinned (OpenSpec.ofChange digestKeysSpec)

/-- ITS FALSE NEIGHBOUR: 'it returns false'. Refute it at one input. -/
def digestKeysWrong : ChangeSpec := { name := "digestKeys", fn := fun _ => fun
  | [d1, d2, d3] => { results := [.lit (.bool false)], args := [d1, d2, d3] }
  | _ => none }
def DigestKeysWrongFalsely : Prop := digestKeysRow.holds Try.pinned (OpenSpec.ofChange digestKeysWrong)

/-- 'wherrylaw10.CramHexes': WHATEVER THE INPUT: true; the input reads as it did. -/
def cramHexesSpec : ChangeSpec := { name := "cramHexes", fn := fun _ => fun
  | [d] => { results := [.lit (.bool true)], args := [d] }
  | _ => none }
def cramHexesRow : OpenClaim := { program := "ytalignlbbdeeiaa", sum := "3e6b99804bb8aa2f6ea9056a3eb76317334fe730566df7b23f396d4bd60163cb", func := "wherry/wherrylaw10.CramHexes", spec := "cramHexes", inPlace := ["internal/abi.NoEscape"], apart := false }
def CramHexesSaid : Prop := cramHexesRow.holds Try.pinned (OpenSpec.ofChange cramHexesSpec)

/-- ITS FALSE NEIGHBOUR: 'it returns false'. Refute it at one input. -/
def cramHexesWrong : ChangeSpec := { name := "cramHexes", fn := fun _ => fun
  | [d] => { results := [.lit (.bool false)], args := [d] }
  | _ => none }
def CramHexesWrongFalsely : Prop := cramHexesRow.holds Try.pinned (OpenSpec.ofChange cramHexesWrong)

/-- 'wherrylaw10.CramProves': WHATEVER THE INPUT: true; the input reads as it did. -/
def cramProvesSpec : ChangeSpec := { name := "cramProves", fn := fun _ => fun
  | [d1, d2, d3, d4, d5] => { results := [.lit (.bool true)], args := [d1, d2, d3, d4, d5] }
  | _ => none }
def cramProvesRow : OpenClaim := { program := "ytalignlbbdeeiaa", sum := "3e6b99804bb8aa2f6ea9056a3eb76317334fe730566df7b23f396d4bd60163cb", func := "wherry/wherrylaw10.CramProves", spec := "cramProves", inPlace := ["internal/abi.NoEscape"], apart := false }
def CramProvesSaid : Prop := cramProvesRow.holds Try.pinned (OpenSpec.ofChange cramProvesSpec)

/-- ITS FALSE NEIGHBOUR: 'it returns false'. Refute it at one input. -/
def cramProvesWrong : ChangeSpec := { name := "cramProves", fn := fun _ => fun
  | [d1, d2, d3, d4, d5] => { results := [.lit (.bool false)], args := [d1, d2, d3, d4, d5] }
  | _ => none }
def CramProvesWrongFalsely : Prop := cramProvesRow.holds Try.pinned (OpenSpec.ofChange cramProvesWrong)

/- THE SECOND FORM. 'bulk': how many values and letters a reading holds, each counted each time it is reached (what is shared counts as often as it is met; a slice's spare places count too). A statement '..UptoSaid' is the law's where the arguments, and the package variables that the reading takes, are together of bulk at most 1048576: NARROWER than '..Said'. Prove '..Said' where nothing that the law and all that it calls make is longer than what came in: it says more and counts as full. Else prove '..UptoSaid'. A law counts once. -/
mutual
def uptoBulk {H : Type} : DataW H → Nat
  | .lit (.string bytes) => bytes.length + 1
  | .lit _ => 1
  | .nil => 1
  | .ptr d => uptoBulk d + 1
  | .slice elems spare => uptoBulkAll elems + uptoBulkAll spare + 1
  | .agg parts => uptoBulkAll parts + 1
  | .iface _ d => uptoBulk d + 1
  | .map entries => uptoBulkEntries entries + 1
  | .held _ => 1
def uptoBulkAll {H : Type} : List (DataW H) → Nat
  | [] => 0
  | d :: r => uptoBulk d + uptoBulkAll r
def uptoBulkEntries {H : Type} : List (Lit × DataW H) → Nat
  | [] => 0
  | x :: r => uptoBulkEntry x + uptoBulkEntries r
def uptoBulkEntry {H : Type} : Lit × DataW H → Nat
  | (.string bytes, d) => bytes.length + uptoBulk d + 1
  | (_, d) => uptoBulk d + 1
 end
def uptoSmall : (H : Type) → List (DataW H) → Bool := fun _ ds => decide (uptoBulkAll ds ≤ 1048576)
def OpenSpec.upto (s : _root_.Go.ChangeSpec) : _root_.Go.OpenSpec := { _root_.Go.OpenSpec.ofChange s with cond := some uptoSmall }

/-- 'wherrylaw09.DigestExact', WHERE WHAT IT READS IS OF BULK AT MOST 1048576: true; the input reads as it did. -/
def digestExactUptoRow : OpenClaim := { program := "ytalignlbbdeeiaa", sum := "3e6b99804bb8aa2f6ea9056a3eb76317334fe730566df7b23f396d4bd60163cb", func := "wherry/wherrylaw09.DigestExact", spec := "digestExact", apart := false, narrowed := true }
def DigestExactUptoSaid : Prop := digestExactUptoRow.holds Try.pinned (OpenSpec.upto digestExactSpec)

/-- 'wherrylaw09.DigestKnown', WHERE WHAT IT READS IS OF BULK AT MOST 1048576: true; the input reads as it did. -/
def digestKnownUptoRow : OpenClaim := { program := "ytalignlbbdeeiaa", sum := "3e6b99804bb8aa2f6ea9056a3eb76317334fe730566df7b23f396d4bd60163cb", func := "wherry/wherrylaw09.DigestKnown", spec := "digestKnown", apart := false, narrowed := true }
def DigestKnownUptoSaid : Prop := digestKnownUptoRow.holds Try.pinned (OpenSpec.upto digestKnownSpec)

/-- 'wherrylaw09.DigestKeys', WHERE WHAT IT READS IS OF BULK AT MOST 1048576: true; the input reads as it did. -/
def digestKeysUptoRow : OpenClaim := { program := "ytalignlbbdeeiaa", sum := "3e6b99804bb8aa2f6ea9056a3eb76317334fe730566df7b23f396d4bd60163cb", func := "wherry/wherrylaw09.DigestKeys", spec := "digestKeys", apart := false, narrowed := true }
def DigestKeysUptoSaid : Prop := digestKeysUptoRow.holds Try.pinned (OpenSpec.upto digestKeysSpec)

/-- 'wherrylaw10.CramHexes', WHERE WHAT IT READS IS OF BULK AT MOST 1048576: true; the input reads as it did. -/
def cramHexesUptoRow : OpenClaim := { program := "ytalignlbbdeeiaa", sum := "3e6b99804bb8aa2f6ea9056a3eb76317334fe730566df7b23f396d4bd60163cb", func := "wherry/wherrylaw10.CramHexes", spec := "cramHexes", inPlace := ["internal/abi.NoEscape"], apart := false, narrowed := true }
def CramHexesUptoSaid : Prop := cramHexesUptoRow.holds Try.pinned (OpenSpec.upto cramHexesSpec)

/-- 'wherrylaw10.CramProves', WHERE WHAT IT READS IS OF BULK AT MOST 1048576: true; the input reads as it did. -/
def cramProvesUptoRow : OpenClaim := { program := "ytalignlbbdeeiaa", sum := "3e6b99804bb8aa2f6ea9056a3eb76317334fe730566df7b23f396d4bd60163cb", func := "wherry/wherrylaw10.CramProves", spec := "cramProves", inPlace := ["internal/abi.NoEscape"], apart := false, narrowed := true }
def CramProvesUptoSaid : Prop := cramProvesUptoRow.holds Try.pinned (OpenSpec.upto cramProvesSpec)

end Rows
end Go.Proofs.Ytalignlbbdeeiaa
