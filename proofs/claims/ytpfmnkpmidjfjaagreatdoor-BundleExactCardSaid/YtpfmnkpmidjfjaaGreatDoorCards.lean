/-
  DERIVED. GIVEN WITH THE SEED: THE CARDS: each row of YtpfmnkpmidjfjaaGreatDoorRows.lean that lists a variable, with what it lists TIED to the program's text (the seventh form; the later family's looks); each row that meets fmt, with fmt's text TOLD by the authors' own Lean function (tested against real Go, not proved from fmt's source: count such statements apart). THE CARD IS WHAT COUNTS. Prove the row's statement (the work); the ties are given (YtpfmnkpmidjfjaaGreatDoorTie.lean); close each card by the builder's one call (the guide's Derived/Test/ToyasCard.lean, 'card_holds'). Laid BY PROGRAM, IN A SANDBOX (cutbox-door.mjs). By AI agents, Wed Nov 11 2026. No macro, syntax, notation, axiom, sorry.
-/
import Derived.Test.YtpfmnkpmidjfjaaGreatDoorRows
import GoSem.ClaimSeven
namespace Go.Proofs.YtpfmnkpmidjfjaaGreatDoor
namespace Rows

/-- THE TIED CARD OF 'wherrylaw17.BundleExact'. -/
def bundleExactCard : Claim7 := { stood := { row := bundleExactRow, standIns := [], harness := (true, "0740e670e4688217a6785b38207b7766b1dc2c5bd32909d71f1c2b765987f304"), looks := true }, kinds := [], alts := [], laidByText := true, laidKinds := [.data, .data, .data, .data, .sentinel, .sentinel, .pinned], laidTests := true, laidLooks := .later }
def BundleExactCardSaid : Prop := Claim7.holds Tryz.pinned (.plain (OpenSpec.ofChange bundleExactSpec)) bundleExactCard

/-- THE TIED CARD OF 'wherrylaw17.BundleBack'. -/
def bundleBackCard : Claim7 := { stood := { row := bundleBackRow, standIns := [], harness := (true, "0740e670e4688217a6785b38207b7766b1dc2c5bd32909d71f1c2b765987f304"), looks := true }, kinds := [], alts := [], laidByText := true, laidKinds := [.data, .data, .data, .data, .sentinel, .sentinel, .pinned], laidTests := true, laidLooks := .later }
def BundleBackCardSaid : Prop := Claim7.holds Tryz.pinned (.plain (OpenSpec.ofChange bundleBackSpec)) bundleBackCard

/-- THE TIED CARD OF 'wherrylaw17.BundleSpoilt'. -/
def bundleSpoiltCard : Claim7 := { stood := { row := bundleSpoiltRow, standIns := [], harness := (true, "0740e670e4688217a6785b38207b7766b1dc2c5bd32909d71f1c2b765987f304"), looks := true }, kinds := [], alts := [], laidByText := true, laidKinds := [.data, .data, .data, .data, .sentinel, .sentinel, .pinned], laidTests := true, laidLooks := .later }
def BundleSpoiltCardSaid : Prop := Claim7.holds Tryz.pinned (.plain (OpenSpec.ofChange bundleSpoiltSpec)) bundleSpoiltCard

/-- THE TIED CARD OF 'wherrylaw17.BundlePacks'. -/
def bundlePacksCard : Claim7 := { stood := { row := bundlePacksRow, standIns := [], harness := (true, "0740e670e4688217a6785b38207b7766b1dc2c5bd32909d71f1c2b765987f304"), looks := true }, kinds := [], alts := [], laidByText := true, laidKinds := [.data, .data, .data, .data, .sentinel, .sentinel, .pinned], laidTests := true, laidLooks := .later }
def BundlePacksCardSaid : Prop := Claim7.holds Tryz.pinned (.plain (OpenSpec.ofChange bundlePacksSpec)) bundlePacksCard

/-- THE TIED CARD OF 'wherrylaw17.BundleForms'. -/
def bundleFormsCard : Claim7 := { stood := { row := bundleFormsRow, standIns := [], harness := (true, "0740e670e4688217a6785b38207b7766b1dc2c5bd32909d71f1c2b765987f304"), looks := true }, kinds := [], alts := [], laidByText := true, laidKinds := [.data, .data, .data, .data, .sentinel, .sentinel, .pinned], laidTests := true, laidLooks := .later }
def BundleFormsCardSaid : Prop := Claim7.holds Tryz.pinned (.plain (OpenSpec.ofChange bundleFormsSpec)) bundleFormsCard

/-- THE TIED CARD OF 'wherrylaw17.BundleLong'. -/
def bundleLongCard : Claim7 := { stood := { row := bundleLongRow, standIns := [], harness := (true, "0740e670e4688217a6785b38207b7766b1dc2c5bd32909d71f1c2b765987f304"), looks := true }, kinds := [], alts := [], laidByText := true, laidKinds := [.data, .data, .data, .data, .sentinel, .sentinel, .pinned], laidTests := true, laidLooks := .later }
def BundleLongCardSaid : Prop := Claim7.holds Tryz.pinned (.plain (OpenSpec.ofChange bundleLongSpec)) bundleLongCard

/-- THE TIED CARD OF 'wherrylaw17.BundleOrder'. -/
def bundleOrderCard : Claim7 := { stood := { row := bundleOrderRow, standIns := [], harness := (true, "0740e670e4688217a6785b38207b7766b1dc2c5bd32909d71f1c2b765987f304"), looks := true }, kinds := [], alts := [], laidByText := true, laidKinds := [.data, .data, .data, .data, .sentinel, .sentinel, .pinned], laidTests := true, laidLooks := .later }
def BundleOrderCardSaid : Prop := Claim7.holds Tryz.pinned (.plain (OpenSpec.ofChange bundleOrderSpec)) bundleOrderCard

/-- THE SECOND FORM's CARD OF 'wherrylaw17.BundleExact'. -/
def bundleExactUptoCard : Claim7 := { stood := { row := bundleExactUptoRow, standIns := [], harness := (true, "0740e670e4688217a6785b38207b7766b1dc2c5bd32909d71f1c2b765987f304"), looks := true }, kinds := [], alts := [], laidByText := true, laidKinds := [.data, .data, .data, .data, .sentinel, .sentinel, .pinned], laidTests := true, laidLooks := .later }
def BundleExactUptoCardSaid : Prop := Claim7.holds Tryz.pinned (.plain (OpenSpec.upto bundleExactSpec)) bundleExactUptoCard

/-- THE SECOND FORM's CARD OF 'wherrylaw17.BundleBack'. -/
def bundleBackUptoCard : Claim7 := { stood := { row := bundleBackUptoRow, standIns := [], harness := (true, "0740e670e4688217a6785b38207b7766b1dc2c5bd32909d71f1c2b765987f304"), looks := true }, kinds := [], alts := [], laidByText := true, laidKinds := [.data, .data, .data, .data, .sentinel, .sentinel, .pinned], laidTests := true, laidLooks := .later }
def BundleBackUptoCardSaid : Prop := Claim7.holds Tryz.pinned (.plain (OpenSpec.upto bundleBackSpec)) bundleBackUptoCard

/-- THE SECOND FORM's CARD OF 'wherrylaw17.BundleSpoilt'. -/
def bundleSpoiltUptoCard : Claim7 := { stood := { row := bundleSpoiltUptoRow, standIns := [], harness := (true, "0740e670e4688217a6785b38207b7766b1dc2c5bd32909d71f1c2b765987f304"), looks := true }, kinds := [], alts := [], laidByText := true, laidKinds := [.data, .data, .data, .data, .sentinel, .sentinel, .pinned], laidTests := true, laidLooks := .later }
def BundleSpoiltUptoCardSaid : Prop := Claim7.holds Tryz.pinned (.plain (OpenSpec.upto bundleSpoiltSpec)) bundleSpoiltUptoCard

/-- THE SECOND FORM's CARD OF 'wherrylaw17.BundlePacks'. -/
def bundlePacksUptoCard : Claim7 := { stood := { row := bundlePacksUptoRow, standIns := [], harness := (true, "0740e670e4688217a6785b38207b7766b1dc2c5bd32909d71f1c2b765987f304"), looks := true }, kinds := [], alts := [], laidByText := true, laidKinds := [.data, .data, .data, .data, .sentinel, .sentinel, .pinned], laidTests := true, laidLooks := .later }
def BundlePacksUptoCardSaid : Prop := Claim7.holds Tryz.pinned (.plain (OpenSpec.upto bundlePacksSpec)) bundlePacksUptoCard

/-- THE SECOND FORM's CARD OF 'wherrylaw17.BundleForms'. -/
def bundleFormsUptoCard : Claim7 := { stood := { row := bundleFormsUptoRow, standIns := [], harness := (true, "0740e670e4688217a6785b38207b7766b1dc2c5bd32909d71f1c2b765987f304"), looks := true }, kinds := [], alts := [], laidByText := true, laidKinds := [.data, .data, .data, .data, .sentinel, .sentinel, .pinned], laidTests := true, laidLooks := .later }
def BundleFormsUptoCardSaid : Prop := Claim7.holds Tryz.pinned (.plain (OpenSpec.upto bundleFormsSpec)) bundleFormsUptoCard

/-- THE SECOND FORM's CARD OF 'wherrylaw17.BundleLong'. -/
def bundleLongUptoCard : Claim7 := { stood := { row := bundleLongUptoRow, standIns := [], harness := (true, "0740e670e4688217a6785b38207b7766b1dc2c5bd32909d71f1c2b765987f304"), looks := true }, kinds := [], alts := [], laidByText := true, laidKinds := [.data, .data, .data, .data, .sentinel, .sentinel, .pinned], laidTests := true, laidLooks := .later }
def BundleLongUptoCardSaid : Prop := Claim7.holds Tryz.pinned (.plain (OpenSpec.upto bundleLongSpec)) bundleLongUptoCard

/-- THE SECOND FORM's CARD OF 'wherrylaw17.BundleOrder'. -/
def bundleOrderUptoCard : Claim7 := { stood := { row := bundleOrderUptoRow, standIns := [], harness := (true, "0740e670e4688217a6785b38207b7766b1dc2c5bd32909d71f1c2b765987f304"), looks := true }, kinds := [], alts := [], laidByText := true, laidKinds := [.data, .data, .data, .data, .sentinel, .sentinel, .pinned], laidTests := true, laidLooks := .later }
def BundleOrderUptoCardSaid : Prop := Claim7.holds Tryz.pinned (.plain (OpenSpec.upto bundleOrderSpec)) bundleOrderUptoCard
end Rows
end Go.Proofs.YtpfmnkpmidjfjaaGreatDoor
