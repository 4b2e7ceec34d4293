/-
  DERIVED. GIVEN WITH THE SEED: THE CARDS: each row of YteiknmcmaemcoaaDoorRows.lean that lists a variable, with what it lists TIED to the program's text (the seventh form; the later family's looks); each row that meets fmt, with fmt's text TOLD by the authors' own Lean function (tested against real Go, not proved from fmt's source: count such statements apart). THE CARD IS WHAT COUNTS. Prove the row's statement (the work); the ties are given (YteiknmcmaemcoaaDoorTie.lean); close each card by the builder's one call (the guide's Derived/Test/ToyasCard.lean, 'card_holds'). Laid BY PROGRAM, IN A SANDBOX (cutbox-door.mjs). By AI agents, Wed Nov 11 2026. No macro, syntax, notation, axiom, sorry.
-/
import Derived.Test.YteiknmcmaemcoaaDoorRows
import GoSem.ClaimSeven
namespace Go.Proofs.YteiknmcmaemcoaaDoor
namespace Rows

/-- THE TIED CARD OF 'wherrylaw12.VerbBack'. -/
def verbBackCard : Claim7 := { stood := { row := verbBackRow, standIns := [], harness := (true, "635dc94a432eda0e647840a8f67bcdb9e909d58c860df0ed19bf106904003cbc"), looks := true }, kinds := [], alts := [], laidByText := true, laidKinds := [.data, .data, .data, .data, .sentinel, .sentinel, .pinned], laidTests := true, laidLooks := .later }
def VerbBackCardSaid : Prop := Claim7.holds Tryd.pinned (.plain (OpenSpec.ofChange verbBackSpec)) verbBackCard

/-- THE TIED CARD OF 'wherrylaw12.VerbFolds'. -/
def verbFoldsCard : Claim7 := { stood := { row := verbFoldsRow, standIns := [], harness := (true, "635dc94a432eda0e647840a8f67bcdb9e909d58c860df0ed19bf106904003cbc"), looks := true }, kinds := [], alts := [], laidByText := true, laidKinds := [.data, .data, .data, .data, .sentinel, .sentinel, .pinned], laidTests := true, laidLooks := .later }
def VerbFoldsCardSaid : Prop := Claim7.holds Tryd.pinned (.plain (OpenSpec.ofChange verbFoldsSpec)) verbFoldsCard

/-- THE TIED CARD OF 'wherrylaw12.VerbKnown'. -/
def verbKnownCard : Claim7 := { stood := { row := verbKnownRow, standIns := [], harness := (true, "635dc94a432eda0e647840a8f67bcdb9e909d58c860df0ed19bf106904003cbc"), looks := true }, kinds := [], alts := [], laidByText := true, laidKinds := [.data, .data, .data, .data, .sentinel, .sentinel, .pinned], laidTests := true, laidLooks := .later }
def VerbKnownCardSaid : Prop := Claim7.holds Tryd.pinned (.plain (OpenSpec.ofChange verbKnownSpec)) verbKnownCard

/-- THE TIED CARD OF 'wherrylaw12.VerbDomains'. -/
def verbDomainsCard : Claim7 := { stood := { row := verbDomainsRow, standIns := [], harness := (true, "635dc94a432eda0e647840a8f67bcdb9e909d58c860df0ed19bf106904003cbc"), looks := true }, kinds := [], alts := [], laidByText := true, laidKinds := [.data, .data, .data, .data, .sentinel, .sentinel, .pinned], laidTests := true, laidLooks := .later }
def VerbDomainsCardSaid : Prop := Claim7.holds Tryd.pinned (.plain (OpenSpec.ofChange verbDomainsSpec)) verbDomainsCard

/-- THE TIED CARD OF 'wherrylaw12.VerbLong'. -/
def verbLongCard : Claim7 := { stood := { row := verbLongRow, standIns := [], harness := (true, "635dc94a432eda0e647840a8f67bcdb9e909d58c860df0ed19bf106904003cbc"), looks := true }, kinds := [], alts := [], laidByText := true, laidKinds := [.data, .data, .data, .data, .sentinel, .sentinel, .pinned], laidTests := true, laidLooks := .later }
def VerbLongCardSaid : Prop := Claim7.holds Tryd.pinned (.plain (OpenSpec.ofChange verbLongSpec)) verbLongCard

/-- THE SECOND FORM's CARD OF 'wherrylaw12.VerbBack'. -/
def verbBackUptoCard : Claim7 := { stood := { row := verbBackUptoRow, standIns := [], harness := (true, "635dc94a432eda0e647840a8f67bcdb9e909d58c860df0ed19bf106904003cbc"), looks := true }, kinds := [], alts := [], laidByText := true, laidKinds := [.data, .data, .data, .data, .sentinel, .sentinel, .pinned], laidTests := true, laidLooks := .later }
def VerbBackUptoCardSaid : Prop := Claim7.holds Tryd.pinned (.plain (OpenSpec.upto verbBackSpec)) verbBackUptoCard

/-- THE SECOND FORM's CARD OF 'wherrylaw12.VerbFolds'. -/
def verbFoldsUptoCard : Claim7 := { stood := { row := verbFoldsUptoRow, standIns := [], harness := (true, "635dc94a432eda0e647840a8f67bcdb9e909d58c860df0ed19bf106904003cbc"), looks := true }, kinds := [], alts := [], laidByText := true, laidKinds := [.data, .data, .data, .data, .sentinel, .sentinel, .pinned], laidTests := true, laidLooks := .later }
def VerbFoldsUptoCardSaid : Prop := Claim7.holds Tryd.pinned (.plain (OpenSpec.upto verbFoldsSpec)) verbFoldsUptoCard

/-- THE SECOND FORM's CARD OF 'wherrylaw12.VerbKnown'. -/
def verbKnownUptoCard : Claim7 := { stood := { row := verbKnownUptoRow, standIns := [], harness := (true, "635dc94a432eda0e647840a8f67bcdb9e909d58c860df0ed19bf106904003cbc"), looks := true }, kinds := [], alts := [], laidByText := true, laidKinds := [.data, .data, .data, .data, .sentinel, .sentinel, .pinned], laidTests := true, laidLooks := .later }
def VerbKnownUptoCardSaid : Prop := Claim7.holds Tryd.pinned (.plain (OpenSpec.upto verbKnownSpec)) verbKnownUptoCard

/-- THE SECOND FORM's CARD OF 'wherrylaw12.VerbDomains'. -/
def verbDomainsUptoCard : Claim7 := { stood := { row := verbDomainsUptoRow, standIns := [], harness := (true, "635dc94a432eda0e647840a8f67bcdb9e909d58c860df0ed19bf106904003cbc"), looks := true }, kinds := [], alts := [], laidByText := true, laidKinds := [.data, .data, .data, .data, .sentinel, .sentinel, .pinned], laidTests := true, laidLooks := .later }
def VerbDomainsUptoCardSaid : Prop := Claim7.holds Tryd.pinned (.plain (OpenSpec.upto verbDomainsSpec)) verbDomainsUptoCard

/-- THE SECOND FORM's CARD OF 'wherrylaw12.VerbLong'. -/
def verbLongUptoCard : Claim7 := { stood := { row := verbLongUptoRow, standIns := [], harness := (true, "635dc94a432eda0e647840a8f67bcdb9e909d58c860df0ed19bf106904003cbc"), looks := true }, kinds := [], alts := [], laidByText := true, laidKinds := [.data, .data, .data, .data, .sentinel, .sentinel, .pinned], laidTests := true, laidLooks := .later }
def VerbLongUptoCardSaid : Prop := Claim7.holds Tryd.pinned (.plain (OpenSpec.upto verbLongSpec)) verbLongUptoCard
end Rows
end Go.Proofs.YteiknmcmaemcoaaDoor
