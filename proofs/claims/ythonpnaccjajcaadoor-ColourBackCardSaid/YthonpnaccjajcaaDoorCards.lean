/-
  DERIVED. GIVEN WITH THE SEED: THE CARDS: each row of YthonpnaccjajcaaDoorRows.lean that lists a variable, with what it lists TIED to the program's text (the seventh form; the later family's looks); each row that meets fmt, with fmt's text TOLD by the authors' own Lean function (tested against real Go, not proved from fmt's source: count such statements apart). THE CARD IS WHAT COUNTS. Prove the row's statement (the work); the ties are given (YthonpnaccjajcaaDoorTie.lean); close each card by the builder's one call (the guide's Derived/Test/ToyasCard.lean, 'card_holds'). Laid BY PROGRAM, IN A SANDBOX (cutbox-door.mjs). By AI agents, Wed Nov 11 2026. No macro, syntax, notation, axiom, sorry.
-/
import Derived.Test.YthonpnaccjajcaaDoorRows
import GoSem.ClaimSeven
namespace Go.Proofs.YthonpnaccjajcaaDoor
namespace Rows

/-- THE TIED CARD OF 'abridgerlaw19.ColourNames'. -/
def colourNamesCard : Claim7 := { stood := { row := colourNamesRow, standIns := [], harness := (true, "492a331495fcb250892084e85ff1ee74715b56a6b0d6ee4613c1bc3f16185d42"), looks := false }, kinds := [], alts := [], laidByText := true, laidKinds := [.data, .listed, .data, .pinned], laidTests := true, laidLooks := .later }
def ColourNamesCardSaid : Prop := Claim7.holds Tryd.pinned (.plain (OpenSpec.ofChange colourNamesSpec)) colourNamesCard

/-- THE TIED CARD OF 'abridgerlaw19.ColourBack'. -/
def colourBackCard : Claim7 := { stood := { row := colourBackRow, standIns := [], harness := (true, "492a331495fcb250892084e85ff1ee74715b56a6b0d6ee4613c1bc3f16185d42"), looks := false }, kinds := [], alts := [], laidByText := true, laidKinds := [.data, .listed, .data, .pinned], laidTests := true, laidLooks := .later }
def ColourBackCardSaid : Prop := Claim7.holds Tryd.pinned (.plain (OpenSpec.ofChange colourBackSpec)) colourBackCard

/-- THE TIED CARD OF 'abridgerlaw19.ColourAll'. -/
def colourAllCard : Claim7 := { stood := { row := colourAllRow, standIns := [], harness := (true, "492a331495fcb250892084e85ff1ee74715b56a6b0d6ee4613c1bc3f16185d42"), looks := false }, kinds := [], alts := [], laidByText := true, laidKinds := [.data, .listed, .data, .pinned], laidTests := true, laidLooks := .later }
def ColourAllCardSaid : Prop := Claim7.holds Tryd.pinned (.plain (OpenSpec.ofChange colourAllSpec)) colourAllCard

/-- THE TIED CARD OF 'abridgerlaw19.ColourGreat'. -/
def colourGreatCard : Claim7 := { stood := { row := colourGreatRow, standIns := [], harness := (true, "492a331495fcb250892084e85ff1ee74715b56a6b0d6ee4613c1bc3f16185d42"), looks := false }, kinds := [], alts := [], laidByText := true, laidKinds := [.data, .listed, .data, .pinned], laidTests := true, laidLooks := .later }
def ColourGreatCardSaid : Prop := Claim7.holds Tryd.pinned (.plain (OpenSpec.ofChange colourGreatSpec)) colourGreatCard

/-- THE TIED CARD OF 'abridgerlaw19.ColourTells'. -/
def colourTellsCard : Claim7 := { stood := { row := colourTellsRow, standIns := [], harness := (true, "492a331495fcb250892084e85ff1ee74715b56a6b0d6ee4613c1bc3f16185d42"), looks := false }, kinds := [], alts := [], laidByText := true, laidKinds := [.data, .listed, .data, .pinned], laidTests := true, laidLooks := .later }
def ColourTellsCardSaid : Prop := Claim7.holds Tryd.pinned (.plain (OpenSpec.ofChange colourTellsSpec)) colourTellsCard

/-- THE SECOND FORM's CARD OF 'abridgerlaw19.ColourNames'. -/
def colourNamesUptoCard : Claim7 := { stood := { row := colourNamesUptoRow, standIns := [], harness := (true, "492a331495fcb250892084e85ff1ee74715b56a6b0d6ee4613c1bc3f16185d42"), looks := false }, kinds := [], alts := [], laidByText := true, laidKinds := [.data, .listed, .data, .pinned], laidTests := true, laidLooks := .later }
def ColourNamesUptoCardSaid : Prop := Claim7.holds Tryd.pinned (.plain (OpenSpec.upto colourNamesSpec)) colourNamesUptoCard

/-- THE SECOND FORM's CARD OF 'abridgerlaw19.ColourBack'. -/
def colourBackUptoCard : Claim7 := { stood := { row := colourBackUptoRow, standIns := [], harness := (true, "492a331495fcb250892084e85ff1ee74715b56a6b0d6ee4613c1bc3f16185d42"), looks := false }, kinds := [], alts := [], laidByText := true, laidKinds := [.data, .listed, .data, .pinned], laidTests := true, laidLooks := .later }
def ColourBackUptoCardSaid : Prop := Claim7.holds Tryd.pinned (.plain (OpenSpec.upto colourBackSpec)) colourBackUptoCard

/-- THE SECOND FORM's CARD OF 'abridgerlaw19.ColourAll'. -/
def colourAllUptoCard : Claim7 := { stood := { row := colourAllUptoRow, standIns := [], harness := (true, "492a331495fcb250892084e85ff1ee74715b56a6b0d6ee4613c1bc3f16185d42"), looks := false }, kinds := [], alts := [], laidByText := true, laidKinds := [.data, .listed, .data, .pinned], laidTests := true, laidLooks := .later }
def ColourAllUptoCardSaid : Prop := Claim7.holds Tryd.pinned (.plain (OpenSpec.upto colourAllSpec)) colourAllUptoCard

/-- THE SECOND FORM's CARD OF 'abridgerlaw19.ColourGreat'. -/
def colourGreatUptoCard : Claim7 := { stood := { row := colourGreatUptoRow, standIns := [], harness := (true, "492a331495fcb250892084e85ff1ee74715b56a6b0d6ee4613c1bc3f16185d42"), looks := false }, kinds := [], alts := [], laidByText := true, laidKinds := [.data, .listed, .data, .pinned], laidTests := true, laidLooks := .later }
def ColourGreatUptoCardSaid : Prop := Claim7.holds Tryd.pinned (.plain (OpenSpec.upto colourGreatSpec)) colourGreatUptoCard

/-- THE SECOND FORM's CARD OF 'abridgerlaw19.ColourTells'. -/
def colourTellsUptoCard : Claim7 := { stood := { row := colourTellsUptoRow, standIns := [], harness := (true, "492a331495fcb250892084e85ff1ee74715b56a6b0d6ee4613c1bc3f16185d42"), looks := false }, kinds := [], alts := [], laidByText := true, laidKinds := [.data, .listed, .data, .pinned], laidTests := true, laidLooks := .later }
def ColourTellsUptoCardSaid : Prop := Claim7.holds Tryd.pinned (.plain (OpenSpec.upto colourTellsSpec)) colourTellsUptoCard
end Rows
end Go.Proofs.YthonpnaccjajcaaDoor
