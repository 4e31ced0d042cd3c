/-
  DERIVED. GIVEN WITH THE SEED: THE CARDS: each row of YthimiidnbnlemaaDoorRows.lean that lists a variable, with what it lists TIED to the program's text (the seventh form; the later family's looks); each row that meets fmt, with fmt's text TOLD by the authors' own Lean function (tested against real Go, not proved from fmt's source: count such statements apart). THE CARD IS WHAT COUNTS. Prove the row's statement (the work); the ties are given (YthimiidnbnlemaaDoorTie.lean); close each card by the builder's one call (the guide's Derived/Test/ToyasCard.lean, 'card_holds'). Laid BY PROGRAM, IN A SANDBOX (cutbox-door.mjs). By AI agents, Wed Nov 11 2026. No macro, syntax, notation, axiom, sorry.
-/
import Derived.Test.YthimiidnbnlemaaDoorRows
import GoSem.ClaimSeven
namespace Go.Proofs.YthimiidnbnlemaaDoor
namespace Rows

/-- THE TIED CARD OF 'abridgerlaw4.DecimalAdds'. -/
def decimalAddsCard : Claim7 := { stood := { row := decimalAddsRow, standIns := [], harness := (true, "7264e3b6780cd0de9c6cb54acb466fa0944a973a988e7998f60e09917c9526c2"), looks := true }, kinds := [], alts := [], laidByText := true, laidKinds := [.data, .pinned], laidTests := true, laidLooks := .later }
def DecimalAddsCardSaid : Prop := Claim7.holds Tryd.pinned (.plain (OpenSpec.ofChange decimalAddsSpec)) decimalAddsCard

/-- THE TIED CARD OF 'abridgerlaw4.DecimalOrder'. -/
def decimalOrderCard : Claim7 := { stood := { row := decimalOrderRow, standIns := [], harness := (true, "7264e3b6780cd0de9c6cb54acb466fa0944a973a988e7998f60e09917c9526c2"), looks := true }, kinds := [], alts := [], laidByText := true, laidKinds := [.data, .pinned], laidTests := true, laidLooks := .later }
def DecimalOrderCardSaid : Prop := Claim7.holds Tryd.pinned (.plain (OpenSpec.ofChange decimalOrderSpec)) decimalOrderCard

/-- THE TIED CARD OF 'abridgerlaw4.DecimalTells'. -/
def decimalTellsCard : Claim7 := { stood := { row := decimalTellsRow, standIns := [], harness := (true, "7264e3b6780cd0de9c6cb54acb466fa0944a973a988e7998f60e09917c9526c2"), looks := true }, kinds := [], alts := [], laidByText := true, laidKinds := [.data, .data, .data, .data, .sentinel, .sentinel, .pinned], laidTests := true, laidLooks := .later }
def DecimalTellsCardSaid : Prop := Claim7.holds Tryd.pinned (.plain (OpenSpec.ofChange decimalTellsSpec)) decimalTellsCard

/-- THE TIED CARD OF 'abridgerlaw4.DecimalInts'. -/
def decimalIntsCard : Claim7 := { stood := { row := decimalIntsRow, standIns := [], harness := (true, "7264e3b6780cd0de9c6cb54acb466fa0944a973a988e7998f60e09917c9526c2"), looks := true }, kinds := [], alts := [], laidByText := true, laidKinds := [.data, .data, .data, .data, .sentinel, .sentinel, .pinned], laidTests := true, laidLooks := .later }
def DecimalIntsCardSaid : Prop := Claim7.holds Tryd.pinned (.plain (OpenSpec.ofChange decimalIntsSpec)) decimalIntsCard

/-- THE TIED CARD OF 'abridgerlaw5.NumberShift'. -/
def numberShiftCard : Claim7 := { stood := { row := numberShiftRow, standIns := [], harness := (true, "7264e3b6780cd0de9c6cb54acb466fa0944a973a988e7998f60e09917c9526c2"), looks := true }, kinds := [], alts := [], laidByText := true, laidKinds := [.data, .data, .data, .data, .sentinel, .sentinel, .pinned], laidTests := true, laidLooks := .later }
def NumberShiftCardSaid : Prop := Claim7.holds Tryd.pinned (.plain (OpenSpec.ofChange numberShiftSpec)) numberShiftCard

/-- THE TIED CARD OF 'abridgerlaw5.NumberWrong'. -/
def numberWrongCard : Claim7 := { stood := { row := numberWrongRow, standIns := [], harness := (true, "7264e3b6780cd0de9c6cb54acb466fa0944a973a988e7998f60e09917c9526c2"), looks := true }, kinds := [], alts := [], laidByText := true, laidKinds := [.data, .data, .data, .data, .sentinel, .sentinel, .pinned], laidTests := true, laidLooks := .later }
def NumberWrongCardSaid : Prop := Claim7.holds Tryd.pinned (.plain (OpenSpec.ofChange numberWrongSpec)) numberWrongCard

/-- THE SECOND FORM's CARD OF 'abridgerlaw4.DecimalAdds'. -/
def decimalAddsUptoCard : Claim7 := { stood := { row := decimalAddsUptoRow, standIns := [], harness := (true, "7264e3b6780cd0de9c6cb54acb466fa0944a973a988e7998f60e09917c9526c2"), looks := true }, kinds := [], alts := [], laidByText := true, laidKinds := [.data, .pinned], laidTests := true, laidLooks := .later }
def DecimalAddsUptoCardSaid : Prop := Claim7.holds Tryd.pinned (.plain (OpenSpec.upto decimalAddsSpec)) decimalAddsUptoCard

/-- THE SECOND FORM's CARD OF 'abridgerlaw4.DecimalOrder'. -/
def decimalOrderUptoCard : Claim7 := { stood := { row := decimalOrderUptoRow, standIns := [], harness := (true, "7264e3b6780cd0de9c6cb54acb466fa0944a973a988e7998f60e09917c9526c2"), looks := true }, kinds := [], alts := [], laidByText := true, laidKinds := [.data, .pinned], laidTests := true, laidLooks := .later }
def DecimalOrderUptoCardSaid : Prop := Claim7.holds Tryd.pinned (.plain (OpenSpec.upto decimalOrderSpec)) decimalOrderUptoCard

/-- THE SECOND FORM's CARD OF 'abridgerlaw4.DecimalTells'. -/
def decimalTellsUptoCard : Claim7 := { stood := { row := decimalTellsUptoRow, standIns := [], harness := (true, "7264e3b6780cd0de9c6cb54acb466fa0944a973a988e7998f60e09917c9526c2"), looks := true }, kinds := [], alts := [], laidByText := true, laidKinds := [.data, .data, .data, .data, .sentinel, .sentinel, .pinned], laidTests := true, laidLooks := .later }
def DecimalTellsUptoCardSaid : Prop := Claim7.holds Tryd.pinned (.plain (OpenSpec.upto decimalTellsSpec)) decimalTellsUptoCard

/-- THE SECOND FORM's CARD OF 'abridgerlaw4.DecimalInts'. -/
def decimalIntsUptoCard : Claim7 := { stood := { row := decimalIntsUptoRow, standIns := [], harness := (true, "7264e3b6780cd0de9c6cb54acb466fa0944a973a988e7998f60e09917c9526c2"), looks := true }, kinds := [], alts := [], laidByText := true, laidKinds := [.data, .data, .data, .data, .sentinel, .sentinel, .pinned], laidTests := true, laidLooks := .later }
def DecimalIntsUptoCardSaid : Prop := Claim7.holds Tryd.pinned (.plain (OpenSpec.upto decimalIntsSpec)) decimalIntsUptoCard

/-- THE SECOND FORM's CARD OF 'abridgerlaw5.NumberShift'. -/
def numberShiftUptoCard : Claim7 := { stood := { row := numberShiftUptoRow, standIns := [], harness := (true, "7264e3b6780cd0de9c6cb54acb466fa0944a973a988e7998f60e09917c9526c2"), looks := true }, kinds := [], alts := [], laidByText := true, laidKinds := [.data, .data, .data, .data, .sentinel, .sentinel, .pinned], laidTests := true, laidLooks := .later }
def NumberShiftUptoCardSaid : Prop := Claim7.holds Tryd.pinned (.plain (OpenSpec.upto numberShiftSpec)) numberShiftUptoCard

/-- THE SECOND FORM's CARD OF 'abridgerlaw5.NumberWrong'. -/
def numberWrongUptoCard : Claim7 := { stood := { row := numberWrongUptoRow, standIns := [], harness := (true, "7264e3b6780cd0de9c6cb54acb466fa0944a973a988e7998f60e09917c9526c2"), looks := true }, kinds := [], alts := [], laidByText := true, laidKinds := [.data, .data, .data, .data, .sentinel, .sentinel, .pinned], laidTests := true, laidLooks := .later }
def NumberWrongUptoCardSaid : Prop := Claim7.holds Tryd.pinned (.plain (OpenSpec.upto numberWrongSpec)) numberWrongUptoCard
end Rows
end Go.Proofs.YthimiidnbnlemaaDoor
