/-
  DERIVED. GIVEN WITH THE SEED: THE CARDS: each row of YtjapfefiaijfcaaGreatDoorRows.lean that lists a variable, with what it lists TIED to the program's text (the seventh form; the later family's looks); each row that meets fmt, with fmt's text TOLD by the authors' own Lean function (tested against real Go, not proved from fmt's source: count such statements apart). THE CARD IS WHAT COUNTS. Prove the row's statement (the work); the ties are given (YtjapfefiaijfcaaGreatDoorTie.lean); close each card by the builder's one call (the guide's Derived/Test/ToyasCard.lean, 'card_holds'). Laid BY PROGRAM, IN A SANDBOX (cutbox-door.mjs). By AI agents, Wed Nov 11 2026. No macro, syntax, notation, axiom, sorry.
-/
import Derived.Test.YtjapfefiaijfcaaGreatDoorRows
import GoSem.ClaimSeven
namespace Go.Proofs.YtjapfefiaijfcaaGreatDoor
namespace Rows

/-- THE TIED CARD OF 'vouchlaw19.PrintLics'. -/
def printLicsCard : Claim7 := { stood := { row := printLicsRow, standIns := [], harness := (true, "b8529492dc5c8f219c6421ca38b637e93ea89a20652a931b7995f7d0e4bb2f65"), looks := true }, kinds := [], alts := [], laidByText := true, laidKinds := [.data, .data, .data, .data, .sentinel, .sentinel, .pinned], laidTests := true, laidLooks := .later }
def PrintLicsCardSaid : Prop := Claim7.holds Tryz.pinned (.plain (OpenSpec.ofChange printLicsSpec)) printLicsCard

/-- THE TIED CARD OF 'vouchlaw16.LicsTells'. -/
def licsTellsCard : Claim7 := { stood := { row := licsTellsRow, standIns := [], harness := (true, "b8529492dc5c8f219c6421ca38b637e93ea89a20652a931b7995f7d0e4bb2f65"), looks := true }, kinds := [], alts := [], laidByText := true, laidKinds := [.data, .data, .data, .data, .sentinel, .sentinel, .pinned], laidTests := true, laidLooks := .later }
def LicsTellsCardSaid : Prop := Claim7.holds Tryz.pinned (.plain (OpenSpec.ofChange licsTellsSpec)) licsTellsCard

/-- THE TIED CARD OF 'vouchlaw16.LicsBack'. -/
def licsBackCard : Claim7 := { stood := { row := licsBackRow, standIns := [], harness := (true, "b8529492dc5c8f219c6421ca38b637e93ea89a20652a931b7995f7d0e4bb2f65"), looks := true }, kinds := [], alts := [], laidByText := true, laidKinds := [.data, .data, .data, .data, .sentinel, .sentinel, .pinned], laidTests := true, laidLooks := .later }
def LicsBackCardSaid : Prop := Claim7.holds Tryz.pinned (.plain (OpenSpec.ofChange licsBackSpec)) licsBackCard

/-- THE SECOND FORM's CARD OF 'vouchlaw19.PrintLics'. -/
def printLicsUptoCard : Claim7 := { stood := { row := printLicsUptoRow, standIns := [], harness := (true, "b8529492dc5c8f219c6421ca38b637e93ea89a20652a931b7995f7d0e4bb2f65"), looks := true }, kinds := [], alts := [], laidByText := true, laidKinds := [.data, .data, .data, .data, .sentinel, .sentinel, .pinned], laidTests := true, laidLooks := .later }
def PrintLicsUptoCardSaid : Prop := Claim7.holds Tryz.pinned (.plain (OpenSpec.upto printLicsSpec)) printLicsUptoCard

/-- THE SECOND FORM's CARD OF 'vouchlaw16.LicsTells'. -/
def licsTellsUptoCard : Claim7 := { stood := { row := licsTellsUptoRow, standIns := [], harness := (true, "b8529492dc5c8f219c6421ca38b637e93ea89a20652a931b7995f7d0e4bb2f65"), looks := true }, kinds := [], alts := [], laidByText := true, laidKinds := [.data, .data, .data, .data, .sentinel, .sentinel, .pinned], laidTests := true, laidLooks := .later }
def LicsTellsUptoCardSaid : Prop := Claim7.holds Tryz.pinned (.plain (OpenSpec.upto licsTellsSpec)) licsTellsUptoCard

/-- THE SECOND FORM's CARD OF 'vouchlaw16.LicsBack'. -/
def licsBackUptoCard : Claim7 := { stood := { row := licsBackUptoRow, standIns := [], harness := (true, "b8529492dc5c8f219c6421ca38b637e93ea89a20652a931b7995f7d0e4bb2f65"), looks := true }, kinds := [], alts := [], laidByText := true, laidKinds := [.data, .data, .data, .data, .sentinel, .sentinel, .pinned], laidTests := true, laidLooks := .later }
def LicsBackUptoCardSaid : Prop := Claim7.holds Tryz.pinned (.plain (OpenSpec.upto licsBackSpec)) licsBackUptoCard
end Rows
end Go.Proofs.YtjapfefiaijfcaaGreatDoor
