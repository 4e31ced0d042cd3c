/-
  DERIVED. GIVEN WITH THE SEED: THE CARDS: each row of YthonpnaccjajcaaGreatDoorRows.lean that lists a variable, with what it lists TIED to the program's text (the seventh form; the later family's looks); each row that meets fmt, with fmt's text TOLD by the authors' own Lean function (tested against real Go, not proved from fmt's source: count such statements apart). THE CARD IS WHAT COUNTS. Prove the row's statement (the work); the ties are given (YthonpnaccjajcaaGreatDoorTie.lean); close each card by the builder's one call (the guide's Derived/Test/ToyasCard.lean, 'card_holds'). Laid BY PROGRAM, IN A SANDBOX (cutbox-door.mjs). By AI agents, Wed Nov 11 2026. No macro, syntax, notation, axiom, sorry.
-/
import Derived.Test.YthonpnaccjajcaaGreatDoorRows
import GoSem.ClaimSeven
namespace Go.Proofs.YthonpnaccjajcaaGreatDoor
namespace Rows

/-- THE TIED CARD OF 'abridgerlaw19.ColourWhere'. -/
def colourWhereCard : Claim7 := { stood := { row := colourWhereRow, standIns := [], harness := (true, "43f8fd40fdb36540825c364ec8dc81f08dfddc3820bf6d1a6564490df9b4b2cc"), looks := false }, kinds := [], alts := [], laidByText := true, laidKinds := [.data, .listed, .data, .pinned], laidTests := true, laidLooks := .later }
def ColourWhereCardSaid : Prop := Claim7.holds Tryz.pinned (.plain (OpenSpec.ofChange colourWhereSpec)) colourWhereCard

/-- THE SECOND FORM's CARD OF 'abridgerlaw19.ColourWhere'. -/
def colourWhereUptoCard : Claim7 := { stood := { row := colourWhereUptoRow, standIns := [], harness := (true, "43f8fd40fdb36540825c364ec8dc81f08dfddc3820bf6d1a6564490df9b4b2cc"), looks := false }, kinds := [], alts := [], laidByText := true, laidKinds := [.data, .listed, .data, .pinned], laidTests := true, laidLooks := .later }
def ColourWhereUptoCardSaid : Prop := Claim7.holds Tryz.pinned (.plain (OpenSpec.upto colourWhereSpec)) colourWhereUptoCard
end Rows
end Go.Proofs.YthonpnaccjajcaaGreatDoor
