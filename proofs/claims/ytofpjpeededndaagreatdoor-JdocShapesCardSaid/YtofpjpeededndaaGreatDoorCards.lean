/-
  DERIVED. GIVEN WITH THE SEED: THE CARDS: each row of YtofpjpeededndaaGreatDoorRows.lean that lists a variable, with what it lists TIED to the program's text (the seventh form; the later family's looks); each row that meets fmt, with fmt's text TOLD by the authors' own Lean function (tested against real Go, not proved from fmt's source: count such statements apart). THE CARD IS WHAT COUNTS. Prove the row's statement (the work); the ties are given (YtofpjpeededndaaGreatDoorTie.lean); close each card by the builder's one call (the guide's Derived/Test/ToyasCard.lean, 'card_holds'). Laid BY PROGRAM, IN A SANDBOX (cutbox-door.mjs). By AI agents, Wed Nov 11 2026. No macro, syntax, notation, axiom, sorry.
-/
import Derived.Test.YtofpjpeededndaaGreatDoorRows
import GoSem.ClaimSeven
namespace Go.Proofs.YtofpjpeededndaaGreatDoor
namespace Rows

/-- THE TIED CARD OF 'abridgerlaw12.JdocNarrow'. -/
def jdocNarrowCard : Claim7 := { stood := { row := jdocNarrowRow, standIns := [], harness := (true, "31457b36220b174472e776970922dfe1fac89e825114eef9699f72f5673da637"), looks := true }, kinds := [], alts := [], laidByText := true, laidKinds := [.data, .data, .data, .data, .sentinel, .sentinel, .pinned], laidTests := true, laidLooks := .later }
def JdocNarrowCardSaid : Prop := Claim7.holds Tryz.pinned (.plain (OpenSpec.ofChange jdocNarrowSpec)) jdocNarrowCard

/-- THE TIED CARD OF 'abridgerlaw12.JdocShapes'. -/
def jdocShapesCard : Claim7 := { stood := { row := jdocShapesRow, standIns := [], harness := (true, "31457b36220b174472e776970922dfe1fac89e825114eef9699f72f5673da637"), looks := true }, kinds := [], alts := [], laidByText := true, laidKinds := [.data, .data, .data, .data, .sentinel, .sentinel, .pinned], laidTests := true, laidLooks := .later }
def JdocShapesCardSaid : Prop := Claim7.holds Tryz.pinned (.plain (OpenSpec.ofChange jdocShapesSpec)) jdocShapesCard

/-- THE SECOND FORM's CARD OF 'abridgerlaw12.JdocNarrow'. -/
def jdocNarrowUptoCard : Claim7 := { stood := { row := jdocNarrowUptoRow, standIns := [], harness := (true, "31457b36220b174472e776970922dfe1fac89e825114eef9699f72f5673da637"), looks := true }, kinds := [], alts := [], laidByText := true, laidKinds := [.data, .data, .data, .data, .sentinel, .sentinel, .pinned], laidTests := true, laidLooks := .later }
def JdocNarrowUptoCardSaid : Prop := Claim7.holds Tryz.pinned (.plain (OpenSpec.upto jdocNarrowSpec)) jdocNarrowUptoCard

/-- THE SECOND FORM's CARD OF 'abridgerlaw12.JdocShapes'. -/
def jdocShapesUptoCard : Claim7 := { stood := { row := jdocShapesUptoRow, standIns := [], harness := (true, "31457b36220b174472e776970922dfe1fac89e825114eef9699f72f5673da637"), looks := true }, kinds := [], alts := [], laidByText := true, laidKinds := [.data, .data, .data, .data, .sentinel, .sentinel, .pinned], laidTests := true, laidLooks := .later }
def JdocShapesUptoCardSaid : Prop := Claim7.holds Tryz.pinned (.plain (OpenSpec.upto jdocShapesSpec)) jdocShapesUptoCard
end Rows
end Go.Proofs.YtofpjpeededndaaGreatDoor
