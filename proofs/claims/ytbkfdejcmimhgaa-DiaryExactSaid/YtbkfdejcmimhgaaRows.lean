/-
  No cell of these rows narrows 'for every input' (looked for: loops, veiled, ifaces, maps, wideKeys, modest, calm, conditions, laid).
  DERIVED. THE GIVEN ROWS OF THIS SEAT. 7 by the template 'for every input the law returns true; each argument reads behind the call as it read before'; 0 by the template 'total and deterministic' (their statements: YtbkfdejcmimhgaaTotals.lean).
  GIVEN WITH THE SEED: the statements are not yours to turn. If you find one false, say at which input.
  Laid BY PROGRAM, IN A SANDBOX (cutbox-rows.mjs): the forced cells as the released guide's own fill.sh prints them over the translation 3a09f4ce8bc007eb… (all of the seat's roots in one cut). By AI agents, Wed Nov 11 2026. No macro, syntax, notation, axiom, sorry.
-/
import Derived.Test.YtbkfdejcmimhgaaChecked
import GoSem.Claim
import GoSem.ClaimJoined
import GoSem.ClaimMapViews
import Derived.JoinedTies
import Derived.KernelRfl
namespace Go.Proofs.Ytbkfdejcmimhgaa
/- THE CELL 'sum', in the pinned program and in every row, IS THE sha256 OF THE DUMP (.gsa) THAT YtbkfdejcmimhgaaProg.lean LOADS. Nothing in Lean hashes anything: it is a label: what it is worth is what the hold of that sum in a sandbox is worth. -/
noncomputable def Try.pinned : Pinned := { name := "ytbkfdejcmimhgaa", sum := "3a09f4ce8bc007ebc2576bdb11b5a2c2d34d2d152eb6c6c9d7f571000b947326", checked := Try.checked }
namespace Rows
def none {H : Type} : Left H := { results := [], args := [] }

/-- 'wherrylaw18.DiaryTrips': WHATEVER THE INPUT: true; the input reads as it did. -/
def diaryTripsSpec : ChangeSpec := { name := "diaryTrips", fn := fun _ => fun
  | [d1, d2, d3] => { results := [.lit (.bool true)], args := [d1, d2, d3] }
  | _ => none }
def diaryTripsRow : OpenClaim := { program := "ytbkfdejcmimhgaa", sum := "3a09f4ce8bc007ebc2576bdb11b5a2c2d34d2d152eb6c6c9d7f571000b947326", func := "wherry/wherrylaw18.DiaryTrips", spec := "diaryTrips", apart := false }
def DiaryTripsSaid : Prop := diaryTripsRow.holds Try.pinned (OpenSpec.ofChange diaryTripsSpec)

/-- ITS FALSE NEIGHBOUR: 'it returns false'. Refute it at one input. -/
def diaryTripsWrong : ChangeSpec := { name := "diaryTrips", fn := fun _ => fun
  | [d1, d2, d3] => { results := [.lit (.bool false)], args := [d1, d2, d3] }
  | _ => none }
def DiaryTripsWrongFalsely : Prop := diaryTripsRow.holds Try.pinned (OpenSpec.ofChange diaryTripsWrong)

/-- 'wherrylaw18.DiaryLimits': WHATEVER THE INPUT: true; the input reads as it did. -/
def diaryLimitsSpec : ChangeSpec := { name := "diaryLimits", fn := fun _ => fun
  | [d1, d2] => { results := [.lit (.bool true)], args := [d1, d2] }
  | _ => none }
def diaryLimitsRow : OpenClaim := { program := "ytbkfdejcmimhgaa", sum := "3a09f4ce8bc007ebc2576bdb11b5a2c2d34d2d152eb6c6c9d7f571000b947326", func := "wherry/wherrylaw18.DiaryLimits", spec := "diaryLimits", apart := false }
def DiaryLimitsSaid : Prop := diaryLimitsRow.holds Try.pinned (OpenSpec.ofChange diaryLimitsSpec)

/-- ITS FALSE NEIGHBOUR: 'it returns false'. Refute it at one input. -/
def diaryLimitsWrong : ChangeSpec := { name := "diaryLimits", fn := fun _ => fun
  | [d1, d2] => { results := [.lit (.bool false)], args := [d1, d2] }
  | _ => none }
def DiaryLimitsWrongFalsely : Prop := diaryLimitsRow.holds Try.pinned (OpenSpec.ofChange diaryLimitsWrong)

/-- 'wherrylaw18.DiaryTwice': WHATEVER THE INPUT: true; the input reads as it did. -/
def diaryTwiceSpec : ChangeSpec := { name := "diaryTwice", fn := fun _ => fun
  | [d1, d2, d3] => { results := [.lit (.bool true)], args := [d1, d2, d3] }
  | _ => none }
def diaryTwiceRow : OpenClaim := { program := "ytbkfdejcmimhgaa", sum := "3a09f4ce8bc007ebc2576bdb11b5a2c2d34d2d152eb6c6c9d7f571000b947326", func := "wherry/wherrylaw18.DiaryTwice", spec := "diaryTwice", apart := false }
def DiaryTwiceSaid : Prop := diaryTwiceRow.holds Try.pinned (OpenSpec.ofChange diaryTwiceSpec)

/-- ITS FALSE NEIGHBOUR: 'it returns false'. Refute it at one input. -/
def diaryTwiceWrong : ChangeSpec := { name := "diaryTwice", fn := fun _ => fun
  | [d1, d2, d3] => { results := [.lit (.bool false)], args := [d1, d2, d3] }
  | _ => none }
def DiaryTwiceWrongFalsely : Prop := diaryTwiceRow.holds Try.pinned (OpenSpec.ofChange diaryTwiceWrong)

/-- 'wherrylaw18.DiarySafe': WHATEVER THE INPUT: true; the input reads as it did. -/
def diarySafeSpec : ChangeSpec := { name := "diarySafe", fn := fun _ => fun
  | [d1, d2, d3] => { results := [.lit (.bool true)], args := [d1, d2, d3] }
  | _ => none }
def diarySafeRow : OpenClaim := { program := "ytbkfdejcmimhgaa", sum := "3a09f4ce8bc007ebc2576bdb11b5a2c2d34d2d152eb6c6c9d7f571000b947326", func := "wherry/wherrylaw18.DiarySafe", spec := "diarySafe", apart := false }
def DiarySafeSaid : Prop := diarySafeRow.holds Try.pinned (OpenSpec.ofChange diarySafeSpec)

/-- ITS FALSE NEIGHBOUR: 'it returns false'. Refute it at one input. -/
def diarySafeWrong : ChangeSpec := { name := "diarySafe", fn := fun _ => fun
  | [d1, d2, d3] => { results := [.lit (.bool false)], args := [d1, d2, d3] }
  | _ => none }
def DiarySafeWrongFalsely : Prop := diarySafeRow.holds Try.pinned (OpenSpec.ofChange diarySafeWrong)

/-- 'wherrylaw18.DiaryRooms': WHATEVER THE INPUT: true; the input reads as it did. -/
def diaryRoomsSpec : ChangeSpec := { name := "diaryRooms", fn := fun _ => fun
  | [d1, d2] => { results := [.lit (.bool true)], args := [d1, d2] }
  | _ => none }
def diaryRoomsRow : OpenClaim := { program := "ytbkfdejcmimhgaa", sum := "3a09f4ce8bc007ebc2576bdb11b5a2c2d34d2d152eb6c6c9d7f571000b947326", func := "wherry/wherrylaw18.DiaryRooms", spec := "diaryRooms", apart := false }
def DiaryRoomsSaid : Prop := diaryRoomsRow.holds Try.pinned (OpenSpec.ofChange diaryRoomsSpec)

/-- ITS FALSE NEIGHBOUR: 'it returns false'. Refute it at one input. -/
def diaryRoomsWrong : ChangeSpec := { name := "diaryRooms", fn := fun _ => fun
  | [d1, d2] => { results := [.lit (.bool false)], args := [d1, d2] }
  | _ => none }
def DiaryRoomsWrongFalsely : Prop := diaryRoomsRow.holds Try.pinned (OpenSpec.ofChange diaryRoomsWrong)

/-- 'wherrylaw18.DiaryRenews': WHATEVER THE INPUT: true; the input reads as it did. -/
def diaryRenewsSpec : ChangeSpec := { name := "diaryRenews", fn := fun _ => fun
  | [d1, d2, d3] => { results := [.lit (.bool true)], args := [d1, d2, d3] }
  | _ => none }
def diaryRenewsRow : OpenClaim := { program := "ytbkfdejcmimhgaa", sum := "3a09f4ce8bc007ebc2576bdb11b5a2c2d34d2d152eb6c6c9d7f571000b947326", func := "wherry/wherrylaw18.DiaryRenews", spec := "diaryRenews", apart := false }
def DiaryRenewsSaid : Prop := diaryRenewsRow.holds Try.pinned (OpenSpec.ofChange diaryRenewsSpec)

/-- ITS FALSE NEIGHBOUR: 'it returns false'. Refute it at one input. -/
def diaryRenewsWrong : ChangeSpec := { name := "diaryRenews", fn := fun _ => fun
  | [d1, d2, d3] => { results := [.lit (.bool false)], args := [d1, d2, d3] }
  | _ => none }
def DiaryRenewsWrongFalsely : Prop := diaryRenewsRow.holds Try.pinned (OpenSpec.ofChange diaryRenewsWrong)

/-- 'wherrylaw18.DiaryExact': WHATEVER THE INPUT: true; the input reads as it did. -/
def diaryExactSpec : ChangeSpec := { name := "diaryExact", fn := fun _ => fun
  | [d1, d2] => { results := [.lit (.bool true)], args := [d1, d2] }
  | _ => none }
def diaryExactRow : OpenClaim := { program := "ytbkfdejcmimhgaa", sum := "3a09f4ce8bc007ebc2576bdb11b5a2c2d34d2d152eb6c6c9d7f571000b947326", func := "wherry/wherrylaw18.DiaryExact", spec := "diaryExact", apart := false }
def DiaryExactSaid : Prop := diaryExactRow.holds Try.pinned (OpenSpec.ofChange diaryExactSpec)

/-- ITS FALSE NEIGHBOUR: 'it returns false'. Refute it at one input. -/
def diaryExactWrong : ChangeSpec := { name := "diaryExact", fn := fun _ => fun
  | [d1, d2] => { results := [.lit (.bool false)], args := [d1, d2] }
  | _ => none }
def DiaryExactWrongFalsely : Prop := diaryExactRow.holds Try.pinned (OpenSpec.ofChange diaryExactWrong)

/- THE SECOND FORM. 'bulk': how many values and letters a reading holds, each counted each time it is reached (what is shared counts as often as it is met; a slice's spare places count too). A statement '..UptoSaid' is the law's where the arguments, and the package variables that the reading takes, are together of bulk at most 1048576: NARROWER than '..Said'. Prove '..Said' where nothing that the law and all that it calls make is longer than what came in: it says more and counts as full. Else prove '..UptoSaid'. A law counts once. -/
mutual
def uptoBulk {H : Type} : DataW H → Nat
  | .lit (.string bytes) => bytes.length + 1
  | .lit _ => 1
  | .nil => 1
  | .ptr d => uptoBulk d + 1
  | .slice elems spare => uptoBulkAll elems + uptoBulkAll spare + 1
  | .agg parts => uptoBulkAll parts + 1
  | .iface _ d => uptoBulk d + 1
  | .map entries => uptoBulkEntries entries + 1
  | .held _ => 1
def uptoBulkAll {H : Type} : List (DataW H) → Nat
  | [] => 0
  | d :: r => uptoBulk d + uptoBulkAll r
def uptoBulkEntries {H : Type} : List (Lit × DataW H) → Nat
  | [] => 0
  | x :: r => uptoBulkEntry x + uptoBulkEntries r
def uptoBulkEntry {H : Type} : Lit × DataW H → Nat
  | (.string bytes, d) => bytes.length + uptoBulk d + 1
  | (_, d) => uptoBulk d + 1
 end
def uptoSmall : (H : Type) → List (DataW H) → Bool := fun _ ds => decide (uptoBulkAll ds ≤ 1048576)
def OpenSpec.upto (s : _root_.Go.ChangeSpec) : _root_.Go.OpenSpec := { _root_.Go.OpenSpec.ofChange s with cond := some uptoSmall }

/-- 'wherrylaw18.DiaryTrips', WHERE WHAT IT READS IS OF BULK AT MOST 1048576: true; the input reads as it did. -/
def diaryTripsUptoRow : OpenClaim := { program := "ytbkfdejcmimhgaa", sum := "3a09f4ce8bc007ebc2576bdb11b5a2c2d34d2d152eb6c6c9d7f571000b947326", func := "wherry/wherrylaw18.DiaryTrips", spec := "diaryTrips", apart := false, narrowed := true }
def DiaryTripsUptoSaid : Prop := diaryTripsUptoRow.holds Try.pinned (OpenSpec.upto diaryTripsSpec)

/-- 'wherrylaw18.DiaryLimits', WHERE WHAT IT READS IS OF BULK AT MOST 1048576: true; the input reads as it did. -/
def diaryLimitsUptoRow : OpenClaim := { program := "ytbkfdejcmimhgaa", sum := "3a09f4ce8bc007ebc2576bdb11b5a2c2d34d2d152eb6c6c9d7f571000b947326", func := "wherry/wherrylaw18.DiaryLimits", spec := "diaryLimits", apart := false, narrowed := true }
def DiaryLimitsUptoSaid : Prop := diaryLimitsUptoRow.holds Try.pinned (OpenSpec.upto diaryLimitsSpec)

/-- 'wherrylaw18.DiaryTwice', WHERE WHAT IT READS IS OF BULK AT MOST 1048576: true; the input reads as it did. -/
def diaryTwiceUptoRow : OpenClaim := { program := "ytbkfdejcmimhgaa", sum := "3a09f4ce8bc007ebc2576bdb11b5a2c2d34d2d152eb6c6c9d7f571000b947326", func := "wherry/wherrylaw18.DiaryTwice", spec := "diaryTwice", apart := false, narrowed := true }
def DiaryTwiceUptoSaid : Prop := diaryTwiceUptoRow.holds Try.pinned (OpenSpec.upto diaryTwiceSpec)

/-- 'wherrylaw18.DiarySafe', WHERE WHAT IT READS IS OF BULK AT MOST 1048576: true; the input reads as it did. -/
def diarySafeUptoRow : OpenClaim := { program := "ytbkfdejcmimhgaa", sum := "3a09f4ce8bc007ebc2576bdb11b5a2c2d34d2d152eb6c6c9d7f571000b947326", func := "wherry/wherrylaw18.DiarySafe", spec := "diarySafe", apart := false, narrowed := true }
def DiarySafeUptoSaid : Prop := diarySafeUptoRow.holds Try.pinned (OpenSpec.upto diarySafeSpec)

/-- 'wherrylaw18.DiaryRooms', WHERE WHAT IT READS IS OF BULK AT MOST 1048576: true; the input reads as it did. -/
def diaryRoomsUptoRow : OpenClaim := { program := "ytbkfdejcmimhgaa", sum := "3a09f4ce8bc007ebc2576bdb11b5a2c2d34d2d152eb6c6c9d7f571000b947326", func := "wherry/wherrylaw18.DiaryRooms", spec := "diaryRooms", apart := false, narrowed := true }
def DiaryRoomsUptoSaid : Prop := diaryRoomsUptoRow.holds Try.pinned (OpenSpec.upto diaryRoomsSpec)

/-- 'wherrylaw18.DiaryRenews', WHERE WHAT IT READS IS OF BULK AT MOST 1048576: true; the input reads as it did. -/
def diaryRenewsUptoRow : OpenClaim := { program := "ytbkfdejcmimhgaa", sum := "3a09f4ce8bc007ebc2576bdb11b5a2c2d34d2d152eb6c6c9d7f571000b947326", func := "wherry/wherrylaw18.DiaryRenews", spec := "diaryRenews", apart := false, narrowed := true }
def DiaryRenewsUptoSaid : Prop := diaryRenewsUptoRow.holds Try.pinned (OpenSpec.upto diaryRenewsSpec)

/-- 'wherrylaw18.DiaryExact', WHERE WHAT IT READS IS OF BULK AT MOST 1048576: true; the input reads as it did. -/
def diaryExactUptoRow : OpenClaim := { program := "ytbkfdejcmimhgaa", sum := "3a09f4ce8bc007ebc2576bdb11b5a2c2d34d2d152eb6c6c9d7f571000b947326", func := "wherry/wherrylaw18.DiaryExact", spec := "diaryExact", apart := false, narrowed := true }
def DiaryExactUptoSaid : Prop := diaryExactUptoRow.holds Try.pinned (OpenSpec.upto diaryExactSpec)

end Rows
end Go.Proofs.Ytbkfdejcmimhgaa
