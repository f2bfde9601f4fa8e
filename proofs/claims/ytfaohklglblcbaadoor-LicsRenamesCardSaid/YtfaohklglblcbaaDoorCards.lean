/-
  DERIVED. GIVEN WITH THE SEED: THE CARDS: each row of YtfaohklglblcbaaDoorRows.lean that lists a variable, with what it lists TIED to the program's text (the seventh form; the later family's looks); each row that meets fmt, with fmt's text TOLD by the authors' own Lean function (tested against real Go, not proved from fmt's source: count such statements apart). THE CARD IS WHAT COUNTS. Prove the row's statement (the work); the ties are given (YtfaohklglblcbaaDoorTie.lean); close each card by the builder's one call (the guide's Derived/Test/ToyasCard.lean, 'card_holds'). Laid BY PROGRAM, IN A SANDBOX (cutbox-door.mjs). By AI agents, Wed Nov 11 2026. No macro, syntax, notation, axiom, sorry.
-/
import Derived.Test.YtfaohklglblcbaaDoorRows
import GoSem.ClaimSeven
namespace Go.Proofs.YtfaohklglblcbaaDoor
namespace Rows

/-- THE TIED CARD OF 'vouchlaw16.LicsRenames'. -/
def licsRenamesCard : Claim7 := { stood := { row := licsRenamesRow, standIns := [], harness := (true, "c45890cc1d6481d7b3704873cb444f04ab59366e7b26ef9d7b66d64bff91f073"), looks := true }, kinds := [], alts := [], laidByText := true, laidKinds := [.data, .data, .data, .data, .sentinel, .sentinel, .pinned], laidTests := true, laidLooks := .later }
def LicsRenamesCardSaid : Prop := Claim7.holds Tryd.pinned (.plain (OpenSpec.ofChange licsRenamesSpec)) licsRenamesCard

/-- THE SECOND FORM's CARD OF 'vouchlaw16.LicsRenames'. -/
def licsRenamesUptoCard : Claim7 := { stood := { row := licsRenamesUptoRow, standIns := [], harness := (true, "c45890cc1d6481d7b3704873cb444f04ab59366e7b26ef9d7b66d64bff91f073"), looks := true }, kinds := [], alts := [], laidByText := true, laidKinds := [.data, .data, .data, .data, .sentinel, .sentinel, .pinned], laidTests := true, laidLooks := .later }
def LicsRenamesUptoCardSaid : Prop := Claim7.holds Tryd.pinned (.plain (OpenSpec.upto licsRenamesSpec)) licsRenamesUptoCard
end Rows
end Go.Proofs.YtfaohklglblcbaaDoor
