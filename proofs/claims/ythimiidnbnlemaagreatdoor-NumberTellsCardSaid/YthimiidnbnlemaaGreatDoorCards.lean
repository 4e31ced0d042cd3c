/-
  DERIVED. GIVEN WITH THE SEED: THE CARDS: each row of YthimiidnbnlemaaGreatDoorRows.lean that lists a variable, with what it lists TIED to the program's text (the seventh form; the later family's looks); each row that meets fmt, with fmt's text TOLD by the authors' own Lean function (tested against real Go, not proved from fmt's source: count such statements apart). THE CARD IS WHAT COUNTS. Prove the row's statement (the work); the ties are given (YthimiidnbnlemaaGreatDoorTie.lean); close each card by the builder's one call (the guide's Derived/Test/ToyasCard.lean, 'card_holds'). Laid BY PROGRAM, IN A SANDBOX (cutbox-door.mjs). By AI agents, Wed Nov 11 2026. No macro, syntax, notation, axiom, sorry.
-/
import Derived.Test.YthimiidnbnlemaaGreatDoorRows
import GoSem.ClaimSeven
namespace Go.Proofs.YthimiidnbnlemaaGreatDoor
namespace Rows

/-- THE TIED CARD OF 'abridgerlaw5.NumberTells'. -/
def numberTellsCard : Claim7 := { stood := { row := numberTellsRow, standIns := [], harness := (true, "7a7639e79849b50d6c436e99324ca4da5a14b1f06d71c1d175b58bf13cf88260"), looks := true }, kinds := [], alts := [], laidByText := true, laidKinds := [.data, .data, .data, .data, .sentinel, .sentinel, .pinned], laidTests := true, laidLooks := .later }
def NumberTellsCardSaid : Prop := Claim7.holds Tryz.pinned (.plain (OpenSpec.ofChange numberTellsSpec)) numberTellsCard

/-- THE TIED CARD OF 'abridgerlaw5.NumberBack'. -/
def numberBackCard : Claim7 := { stood := { row := numberBackRow, standIns := [], harness := (true, "7a7639e79849b50d6c436e99324ca4da5a14b1f06d71c1d175b58bf13cf88260"), looks := true }, kinds := [], alts := [], laidByText := true, laidKinds := [.data, .data, .data, .data, .sentinel, .sentinel, .pinned], laidTests := true, laidLooks := .later }
def NumberBackCardSaid : Prop := Claim7.holds Tryz.pinned (.plain (OpenSpec.ofChange numberBackSpec)) numberBackCard

/-- THE TIED CARD OF 'abridgerlaw5.NumberLeast'. -/
def numberLeastCard : Claim7 := { stood := { row := numberLeastRow, standIns := [], harness := (true, "7a7639e79849b50d6c436e99324ca4da5a14b1f06d71c1d175b58bf13cf88260"), looks := true }, kinds := [], alts := [], laidByText := true, laidKinds := [.data, .data, .data, .data, .sentinel, .sentinel, .pinned], laidTests := true, laidLooks := .later }
def NumberLeastCardSaid : Prop := Claim7.holds Tryz.pinned (.plain (OpenSpec.ofChange numberLeastSpec)) numberLeastCard

/-- THE TIED CARD OF 'abridgerlaw5.NumberValue'. -/
def numberValueCard : Claim7 := { stood := { row := numberValueRow, standIns := [], harness := (true, "7a7639e79849b50d6c436e99324ca4da5a14b1f06d71c1d175b58bf13cf88260"), looks := true }, kinds := [], alts := [], laidByText := true, laidKinds := [.data, .data, .data, .data, .sentinel, .sentinel, .pinned], laidTests := true, laidLooks := .later }
def NumberValueCardSaid : Prop := Claim7.holds Tryz.pinned (.plain (OpenSpec.ofChange numberValueSpec)) numberValueCard

/-- THE SECOND FORM's CARD OF 'abridgerlaw5.NumberTells'. -/
def numberTellsUptoCard : Claim7 := { stood := { row := numberTellsUptoRow, standIns := [], harness := (true, "7a7639e79849b50d6c436e99324ca4da5a14b1f06d71c1d175b58bf13cf88260"), looks := true }, kinds := [], alts := [], laidByText := true, laidKinds := [.data, .data, .data, .data, .sentinel, .sentinel, .pinned], laidTests := true, laidLooks := .later }
def NumberTellsUptoCardSaid : Prop := Claim7.holds Tryz.pinned (.plain (OpenSpec.upto numberTellsSpec)) numberTellsUptoCard

/-- THE SECOND FORM's CARD OF 'abridgerlaw5.NumberBack'. -/
def numberBackUptoCard : Claim7 := { stood := { row := numberBackUptoRow, standIns := [], harness := (true, "7a7639e79849b50d6c436e99324ca4da5a14b1f06d71c1d175b58bf13cf88260"), looks := true }, kinds := [], alts := [], laidByText := true, laidKinds := [.data, .data, .data, .data, .sentinel, .sentinel, .pinned], laidTests := true, laidLooks := .later }
def NumberBackUptoCardSaid : Prop := Claim7.holds Tryz.pinned (.plain (OpenSpec.upto numberBackSpec)) numberBackUptoCard

/-- THE SECOND FORM's CARD OF 'abridgerlaw5.NumberLeast'. -/
def numberLeastUptoCard : Claim7 := { stood := { row := numberLeastUptoRow, standIns := [], harness := (true, "7a7639e79849b50d6c436e99324ca4da5a14b1f06d71c1d175b58bf13cf88260"), looks := true }, kinds := [], alts := [], laidByText := true, laidKinds := [.data, .data, .data, .data, .sentinel, .sentinel, .pinned], laidTests := true, laidLooks := .later }
def NumberLeastUptoCardSaid : Prop := Claim7.holds Tryz.pinned (.plain (OpenSpec.upto numberLeastSpec)) numberLeastUptoCard

/-- THE SECOND FORM's CARD OF 'abridgerlaw5.NumberValue'. -/
def numberValueUptoCard : Claim7 := { stood := { row := numberValueUptoRow, standIns := [], harness := (true, "7a7639e79849b50d6c436e99324ca4da5a14b1f06d71c1d175b58bf13cf88260"), looks := true }, kinds := [], alts := [], laidByText := true, laidKinds := [.data, .data, .data, .data, .sentinel, .sentinel, .pinned], laidTests := true, laidLooks := .later }
def NumberValueUptoCardSaid : Prop := Claim7.holds Tryz.pinned (.plain (OpenSpec.upto numberValueSpec)) numberValueUptoCard
end Rows
end Go.Proofs.YthimiidnbnlemaaGreatDoor
