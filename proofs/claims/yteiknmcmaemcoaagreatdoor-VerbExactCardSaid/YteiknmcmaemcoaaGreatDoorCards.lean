/-
  DERIVED. GIVEN WITH THE SEED: THE CARDS: each row of YteiknmcmaemcoaaGreatDoorRows.lean that lists a variable, with what it lists TIED to the program's text (the seventh form; the later family's looks); each row that meets fmt, with fmt's text TOLD by the authors' own Lean function (tested against real Go, not proved from fmt's source: count such statements apart). THE CARD IS WHAT COUNTS. Prove the row's statement (the work); the ties are given (YteiknmcmaemcoaaGreatDoorTie.lean); close each card by the builder's one call (the guide's Derived/Test/ToyasCard.lean, 'card_holds'). Laid BY PROGRAM, IN A SANDBOX (cutbox-door.mjs). By AI agents, Wed Nov 11 2026. No macro, syntax, notation, axiom, sorry.
-/
import Derived.Test.YteiknmcmaemcoaaGreatDoorRows
import GoSem.ClaimSeven
namespace Go.Proofs.YteiknmcmaemcoaaGreatDoor
namespace Rows

/-- THE TIED CARD OF 'wherrylaw12.VerbExact'. -/
def verbExactCard : Claim7 := { stood := { row := verbExactRow, standIns := [], harness := (true, "0be2b54f70190eb67ed897eef68b84c784aa8f6ee0aa5ab5b7ddc50ee6128a5c"), looks := true }, kinds := [], alts := [], laidByText := true, laidKinds := [.data, .data, .data, .data, .sentinel, .sentinel, .pinned], laidTests := true, laidLooks := .later }
def VerbExactCardSaid : Prop := Claim7.holds Tryz.pinned (.plain (OpenSpec.ofChange verbExactSpec)) verbExactCard

/-- THE TIED CARD OF 'wherrylaw12.VerbParams'. -/
def verbParamsCard : Claim7 := { stood := { row := verbParamsRow, standIns := [], harness := (true, "0be2b54f70190eb67ed897eef68b84c784aa8f6ee0aa5ab5b7ddc50ee6128a5c"), looks := true }, kinds := [], alts := [], laidByText := true, laidKinds := [.data, .data, .data, .data, .sentinel, .sentinel, .pinned], laidTests := true, laidLooks := .later }
def VerbParamsCardSaid : Prop := Claim7.holds Tryz.pinned (.plain (OpenSpec.ofChange verbParamsSpec)) verbParamsCard

/-- THE SECOND FORM's CARD OF 'wherrylaw12.VerbExact'. -/
def verbExactUptoCard : Claim7 := { stood := { row := verbExactUptoRow, standIns := [], harness := (true, "0be2b54f70190eb67ed897eef68b84c784aa8f6ee0aa5ab5b7ddc50ee6128a5c"), looks := true }, kinds := [], alts := [], laidByText := true, laidKinds := [.data, .data, .data, .data, .sentinel, .sentinel, .pinned], laidTests := true, laidLooks := .later }
def VerbExactUptoCardSaid : Prop := Claim7.holds Tryz.pinned (.plain (OpenSpec.upto verbExactSpec)) verbExactUptoCard

/-- THE SECOND FORM's CARD OF 'wherrylaw12.VerbParams'. -/
def verbParamsUptoCard : Claim7 := { stood := { row := verbParamsUptoRow, standIns := [], harness := (true, "0be2b54f70190eb67ed897eef68b84c784aa8f6ee0aa5ab5b7ddc50ee6128a5c"), looks := true }, kinds := [], alts := [], laidByText := true, laidKinds := [.data, .data, .data, .data, .sentinel, .sentinel, .pinned], laidTests := true, laidLooks := .later }
def VerbParamsUptoCardSaid : Prop := Claim7.holds Tryz.pinned (.plain (OpenSpec.upto verbParamsSpec)) verbParamsUptoCard
end Rows
end Go.Proofs.YteiknmcmaemcoaaGreatDoor
