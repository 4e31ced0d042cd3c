/- PLAIN LAWS of the reference's number: ReadNum reads what Read reads, whatever the text's length. -/
import Derived.Test.YthimiidnbnlemaaGreatDoorNumberBackPNumV
import Derived.Test.YthimiidnbnlemaaGreatDoorNumberBackPx13
import Derived.Test.YthimiidnbnlemaaGreatDoorNumberBackPx18
import Derived.Test.YthimiidnbnlemaaGreatDoorNumberBackPx16
import Derived.Test.YthimiidnbnlemaaGreatDoorNumberBackPx17
set_option linter.unusedVariables false
set_option linter.unusedSimpArgs false
namespace Go.Proofs.YthimiidnbnlemaaGreatDoorD
open Go.RowKit Go.Proofs.YthimiidnbnlemaaGreatDoorX Go.Proofs.YthimiidnbnlemaaGreatDoor.P Go.Proofs.YthimiidnbnlemaaGreatDoorW.PrintWords Go.Proofs.YthimiidnbnlemaaGreatDoorW.PrintLast Go.Proofs.YthimiidnbnlemaaGreatDoorW.PrintMore
theorem bt_at (pre : List UInt8) (c : UInt8) (r : List UInt8) : bt (mk (pre ++ c :: r)) (pre.length : Int) = (c.toNat : Int) := by
  rw [bt_mk _ _ (by simp)]
  simp
def bodyL (g : Bool) (t : List UInt8) : Option Pieces :=
  match (runL t).2 with
  | 46 :: u => if (runL u).1 = [] then none else restL g (runL t).1 (runL u).1 (runL u).2
  | s => restL g (runL t).1 [] s
theorem readL_body (l : List UInt8) : readL l = bodyL (signL l).1 (signL l).2 := rfl
end Go.Proofs.YthimiidnbnlemaaGreatDoorD
