/- DecimalInts: small numbers are reckoned as ints are: out of what Dec, Add, Int and Less come to. -/
import Derived.Test.YthimiidnbnlemaaDoorPDecQ
import Derived.Test.YthimiidnbnlemaaDoorPx16
set_option linter.unusedVariables false
set_option linter.unusedSimpArgs false
namespace Go.Proofs.YthimiidnbnlemaaDoor.Pure
open Go.RowKit Go.Proofs.YthimiidnbnlemaaDoorX Go.Proofs.YthimiidnbnlemaaDoorD Go.Proofs.YthimiidnbnlemaaDoor.P Go.Proofs.YthimiidnbnlemaaDoorW.PrintWords Go.Proofs.YthimiidnbnlemaaDoorW.PrintLast Go.Proofs.YthimiidnbnlemaaDoorW.PrintMore

theorem ints_core (K : Nat) (hK : 1000 ≤ K) (a b : Int) (a1 : -400000 ≤ a) (a2 : a ≤ 400000) (b1 : -400000 ≤ b) (b2 : b ≤ 400000) (x : Bool) : abridgerlaw4_DecimalInts.j0 (K + 1) a b x false = some true := by
  have h7 : (10 : Nat) ^ 7 = 10000000 := by decide
  have za := S_size_le a 7 (by unfold Fits; omega) (by omega)
  have zb := S_size_le b 7 (by unfold Fits; omega) (by omega)
  have zc := S_size_le (a + b) 7 (by unfold Fits; omega) (by omega)
  have hI : decimal_Int.f (S (a + b)) = some (a + b, true) := by
    unfold decimal_Int.f
    rw [if_pos (by omega), intL_right _ (S_right _), S_toI]
    unfold intR
    rw [if_pos (by omega)]
  simp only [abridgerlaw4_DecimalInts.j0]
  rw [if_neg (by simp), dec_f a (by omega) (by omega) K (by omega), dec_f b (by omega) (by omega) K (by omega)]
  simp only [ob]
  rw [add_S a b (by omega) (by omega) K (by omega)]
  simp only [ob]
  rw [hI]
  simp only [ob]
  rw [if_pos trivial, if_pos trivial, w64 (by omega) (by omega), if_pos rfl, dec_f (a + b) (by omega) (by omega) K (by omega)]
  simp only [ob]
  rw [if_pos trivial, less_S a b (by omega) (by omega) K (by omega)]
  simp only [ob]
  simp
theorem DecimalInts : abridgerlaw4_DecimalInts.Pure := by
  intro a b _ _
  obtain ⟨K, hK⟩ : ∃ K : Nat, 1000 ≤ K := ⟨1000, Nat.le_refl _⟩
  refine ⟨K + 1, ?_⟩
  have out : ∀ x7, abridgerlaw4_DecimalInts.j0 (K + 1) a b x7 true = some x7 := fun x7 => by simp only [abridgerlaw4_DecimalInts.j0]; rw [if_pos trivial]
  unfold abridgerlaw4_DecimalInts.f
  rw [alive_f _ (by omega)]
  simp only [ob]
  rw [if_pos trivial]
  by_cases h1 : a < -400000
  · rw [if_pos h1, out]
  by_cases h2 : a > 400000
  · rw [if_neg h1, if_pos h2, out]
  by_cases h3 : b < -400000
  · rw [if_neg h1, if_neg h2, if_pos h3, out]
  rw [if_neg h1, if_neg h2, if_neg h3]
  by_cases h4 : b > 400000
  · have : decide (b > 400000) = true := by simpa using h4
    rw [this, out]
  have : decide (b > 400000) = false := by simpa using h4
  rw [this]
  exact ints_core K hK a b (by omega) (by omega) (by omega) (by omega) true

end Go.Proofs.YthimiidnbnlemaaDoor.Pure
