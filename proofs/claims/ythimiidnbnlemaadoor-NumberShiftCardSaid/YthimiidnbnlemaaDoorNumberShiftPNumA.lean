/- PLAIN LAWS: the example of chapter 5 holds. -/
import Derived.Test.YthimiidnbnlemaaDoorNumberShiftPNumP
import Derived.Test.YthimiidnbnlemaaDoorNumberShiftPx12
set_option linter.unusedVariables false
set_option linter.unusedSimpArgs false
namespace Go.Proofs.YthimiidnbnlemaaDoorD
open Go.RowKit Go.Proofs.YthimiidnbnlemaaDoorX Go.Proofs.YthimiidnbnlemaaDoor.P Go.Proofs.YthimiidnbnlemaaDoorW.PrintWords Go.Proofs.YthimiidnbnlemaaDoorW.PrintLast Go.Proofs.YthimiidnbnlemaaDoorW.PrintMore
theorem itoa3 : Lib.itoa 3 = [51] := by show Lib.itoa ((3 : Nat) : Int) = _; rw [Lib.itoa_nonneg, Lib.decDigits_one (by omega)]; rfl
theorem S3 : S 3 = mk [51] := by rw [S_mk, itoa3]
theorem read_13 : readV [49, 101, 51] = (false, mk [49], mk [51], true) := by
  have e : readL [49, 101, 51] = some ⟨false, [49], [], 3⟩ := by rfl
  unfold readV
  rw [e]
  have en : numP ⟨false, [49], [], 3⟩ = (false, mk [49], S 3) := rfl
  simp only []
  rw [en, S3]
theorem plain_13 : spellsL false [49] 3 = [[49, 48, 48, 48], [49, 101, 51]] := by
  have : plainL [49] 3 = [[49, 48, 48, 48], [49, 101, 51]] := by
    unfold plainL firstsL lastsL spell
    rw [itoa3, if_pos (by omega), if_neg (by simp)]
    rfl
  unfold spellsL
  rw [if_neg (by simp), this]
  rfl
theorem right_13 : rightN [49] [51] = true := by decide
theorem toI3 : toI [51] = 3 := by have := (itoa_right 3).2; rw [itoa3] at this; exact this
theorem alive5_f (k : Nat) (hk : 3000000 < k) : l5_alive.f k = some true := by
  unfold l5_alive.f
  have e0 : (⟨#[49, 101, 51]⟩ : ByteArray) = mk [49, 101, 51] := rfl
  rw [e0, read_f _ (by simp) k (by omega), read_13]
  simp only [obi]
  rw [short_f false [49] [51] (by simp) (by simp) k (by omega), if_pos right_13, toI3, plain_13]
  simp only [obi]
  have es : shortL [[49, 48, 48, 48], [49, 101, 51]] = [49, 101, 51] := rfl
  rw [es, mk_toList, if_pos rfl, if_pos trivial, mk_toList, if_pos rfl, mk_toList, if_pos rfl, plains_f false [49] [51] (by simp) (by simp) k (by omega), if_pos right_13, toI3, plain_13]
  simp only [obi]
  rw [if_pos (by simp), right_n false [49] [51] (by simp) k (by simp; omega), right_13]
  rfl
end Go.Proofs.YthimiidnbnlemaaDoorD
