/-
  DERIVED. GIVEN WITH THE SEED: THE CARDS: each row of YtjibbkedlkbanaaGreatDoorRows.lean that lists a variable, with what it lists TIED to the program's text (the seventh form; the later family's looks); each row that meets fmt, with fmt's text TOLD by the authors' own Lean function (tested against real Go, not proved from fmt's source: count such statements apart). THE CARD IS WHAT COUNTS. Prove the row's statement (the work); the ties are given (YtjibbkedlkbanaaGreatDoorTie.lean); close each card by the builder's one call (the guide's Derived/Test/ToyasCard.lean, 'card_holds'). Laid BY PROGRAM, IN A SANDBOX (cutbox-door.mjs). By AI agents, Wed Nov 11 2026. No macro, syntax, notation, axiom, sorry.
-/
import Derived.Test.YtjibbkedlkbanaaGreatDoorRows
import GoSem.ClaimSeven
namespace Go.Proofs.YtjibbkedlkbanaaGreatDoor
namespace Rows

/-- THE TIED CARD OF 'abridgerlaw15.ClexKinds'. -/
def clexKindsCard : Claim7 := { stood := { row := clexKindsRow, standIns := [], harness := (true, "a214b1275300991809ec44fcb3583d9aa531b9411a7c21464504bfdec0f9525d"), looks := true }, kinds := [], alts := [], laidByText := true, laidKinds := [.data, .data, .data, .data, .sentinel, .sentinel, .pinned], laidTests := true, laidLooks := .later }
def ClexKindsCardSaid : Prop := Claim7.holds Tryz.pinned (.plain (OpenSpec.ofChange clexKindsSpec)) clexKindsCard

/-- THE SECOND FORM's CARD OF 'abridgerlaw15.ClexKinds'. -/
def clexKindsUptoCard : Claim7 := { stood := { row := clexKindsUptoRow, standIns := [], harness := (true, "a214b1275300991809ec44fcb3583d9aa531b9411a7c21464504bfdec0f9525d"), looks := true }, kinds := [], alts := [], laidByText := true, laidKinds := [.data, .data, .data, .data, .sentinel, .sentinel, .pinned], laidTests := true, laidLooks := .later }
def ClexKindsUptoCardSaid : Prop := Claim7.holds Tryz.pinned (.plain (OpenSpec.upto clexKindsSpec)) clexKindsUptoCard
end Rows
end Go.Proofs.YtjibbkedlkbanaaGreatDoor
