/-
  DERIVED. GIVEN WITH THE SEED: THE CARDS: each row of YtalignlbbdeeiaaDoorRows.lean that lists a variable, with what it lists TIED to the program's text (the seventh form; the later family's looks); each row that meets fmt, with fmt's text TOLD by the authors' own Lean function (tested against real Go, not proved from fmt's source: count such statements apart). THE CARD IS WHAT COUNTS. Prove the row's statement (the work); the ties are given (YtalignlbbdeeiaaDoorTie.lean); close each card by the builder's one call (the guide's Derived/Test/ToyasCard.lean, 'card_holds'). Laid BY PROGRAM, IN A SANDBOX (cutbox-door.mjs). By AI agents, Wed Nov 11 2026. No macro, syntax, notation, axiom, sorry.
-/
import Derived.Test.YtalignlbbdeeiaaDoorRows
import GoSem.ClaimSeven
namespace Go.Proofs.YtalignlbbdeeiaaDoor
namespace Rows

/-- THE TIED CARD OF 'wherrylaw10.CramBack'. -/
def cramBackCard : Claim7 := { stood := { row := cramBackRow, standIns := [], harness := (true, "6348b1872fc24b5d08c7150565635717a94d6622d21fad182ec4a9c863206036"), looks := false }, kinds := [], alts := [], laidByText := true, laidKinds := [.data, .pinned], laidTests := true, laidLooks := .later }
def CramBackCardSaid : Prop := Claim7.holds Tryd.pinned (.plain (OpenSpec.ofChange cramBackSpec)) cramBackCard

/-- THE TIED CARD OF 'wherrylaw10.CramBad'. -/
def cramBadCard : Claim7 := { stood := { row := cramBadRow, standIns := [], harness := (true, "6348b1872fc24b5d08c7150565635717a94d6622d21fad182ec4a9c863206036"), looks := false }, kinds := [], alts := [], laidByText := true, laidKinds := [.data, .pinned], laidTests := true, laidLooks := .later }
def CramBadCardSaid : Prop := Claim7.holds Tryd.pinned (.plain (OpenSpec.ofChange cramBadSpec)) cramBadCard

/-- THE TIED CARD OF 'wherrylaw10.CramExact'. -/
def cramExactCard : Claim7 := { stood := { row := cramExactRow, standIns := [], harness := (true, "6348b1872fc24b5d08c7150565635717a94d6622d21fad182ec4a9c863206036"), looks := false }, kinds := [], alts := [], laidByText := true, laidKinds := [.data, .pinned], laidTests := true, laidLooks := .later }
def CramExactCardSaid : Prop := Claim7.holds Tryd.pinned (.plain (OpenSpec.ofChange cramExactSpec)) cramExactCard

/-- THE SECOND FORM's CARD OF 'wherrylaw10.CramBack'. -/
def cramBackUptoCard : Claim7 := { stood := { row := cramBackUptoRow, standIns := [], harness := (true, "6348b1872fc24b5d08c7150565635717a94d6622d21fad182ec4a9c863206036"), looks := false }, kinds := [], alts := [], laidByText := true, laidKinds := [.data, .pinned], laidTests := true, laidLooks := .later }
def CramBackUptoCardSaid : Prop := Claim7.holds Tryd.pinned (.plain (OpenSpec.upto cramBackSpec)) cramBackUptoCard

/-- THE SECOND FORM's CARD OF 'wherrylaw10.CramBad'. -/
def cramBadUptoCard : Claim7 := { stood := { row := cramBadUptoRow, standIns := [], harness := (true, "6348b1872fc24b5d08c7150565635717a94d6622d21fad182ec4a9c863206036"), looks := false }, kinds := [], alts := [], laidByText := true, laidKinds := [.data, .pinned], laidTests := true, laidLooks := .later }
def CramBadUptoCardSaid : Prop := Claim7.holds Tryd.pinned (.plain (OpenSpec.upto cramBadSpec)) cramBadUptoCard

/-- THE SECOND FORM's CARD OF 'wherrylaw10.CramExact'. -/
def cramExactUptoCard : Claim7 := { stood := { row := cramExactUptoRow, standIns := [], harness := (true, "6348b1872fc24b5d08c7150565635717a94d6622d21fad182ec4a9c863206036"), looks := false }, kinds := [], alts := [], laidByText := true, laidKinds := [.data, .pinned], laidTests := true, laidLooks := .later }
def CramExactUptoCardSaid : Prop := Claim7.holds Tryd.pinned (.plain (OpenSpec.upto cramExactSpec)) cramExactUptoCard
end Rows
end Go.Proofs.YtalignlbbdeeiaaDoor
