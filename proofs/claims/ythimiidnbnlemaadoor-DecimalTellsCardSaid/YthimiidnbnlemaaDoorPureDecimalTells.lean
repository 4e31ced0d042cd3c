/- DecimalTells: the program and the reference tell the same of any two texts: out of what each comes to (whole numbers, each in its one spelling). -/
import Derived.Test.YthimiidnbnlemaaDoorPDecQ
set_option linter.unusedVariables false
set_option linter.unusedSimpArgs false
namespace Go.Proofs.YthimiidnbnlemaaDoor.Pure
open Go.RowKit Go.Proofs.YthimiidnbnlemaaDoorX Go.Proofs.YthimiidnbnlemaaDoorD Go.Proofs.YthimiidnbnlemaaDoor.P Go.Proofs.YthimiidnbnlemaaDoorW.PrintWords Go.Proofs.YthimiidnbnlemaaDoorW.PrintLast Go.Proofs.YthimiidnbnlemaaDoorW.PrintMore

/-- what both Adds tell -/
def addV (a b : ByteArray) : ByteArray × Bool := if rightL a.data.toList = true ∧ rightL b.data.toList = true then (S (toI a.data.toList + toI b.data.toList), true) else (⟨#[]⟩, false)
def lessV (a b : ByteArray) : Bool := if rightL a.data.toList = true ∧ rightL b.data.toList = true then decide (toI a.data.toList < toI b.data.toList) else false
def intV (a : ByteArray) : Int × Bool := if rightL a.data.toList = true then intR (toI a.data.toList) else (0, false)
theorem not_both {p q : Bool} (h : ¬ (p = true ∧ q = true)) : p = false ∨ q = false := by cases p <;> cases q <;> simp at *
theorem addI (a b : ByteArray) (sa : a.size ≤ 1000) (sb : b.size ≤ 1000) (k : Nat) (hk : 3000000 < k) : decimal_Add.f k a b = some (addV a b) := by
  unfold addV
  split
  · rename_i h; exact add_f a b h.1 h.2 (by omega) (by omega) k (by omega)
  · rename_i h; exact add_no a b (not_both h) k (by omega)
theorem addR (a b : ByteArray) (sa : a.size ≤ 1000) (sb : b.size ≤ 1000) (k : Nat) (hk : 3000000 < k) : abridgerref1_Add.f k a b = some (addV a b) := by
  unfold addV
  split
  · rename_i h; exact radd_f a b h.1 h.2 (by omega) (by omega) k (by omega)
  · rename_i h; exact radd_no a b (not_both h) (by omega) (by omega) k (by omega)
theorem lessI (a b : ByteArray) (sa : a.size ≤ 1000) (sb : b.size ≤ 1000) (k : Nat) (hk : 3000000 < k) : decimal_Less.f k a b = some (lessV a b) := by
  unfold lessV
  split
  · rename_i h; exact less_f a b h.1 h.2 (by omega) (by omega) k (by omega)
  · rename_i h; exact less_no a b (not_both h) k (by omega)
theorem lessR (a b : ByteArray) (sa : a.size ≤ 1000) (sb : b.size ≤ 1000) (k : Nat) (hk : 3000000 < k) : abridgerref1_LessDecimal.f k a b = some (lessV a b) := by
  unfold lessV
  split
  · rename_i h; exact rless_f a b h.1 h.2 (by omega) (by omega) k (by omega)
  · rename_i h; exact rless_no a b (not_both h) (by omega) (by omega) k (by omega)
theorem intI (a : ByteArray) (sa : a.size ≤ 1000) : decimal_Int.f a = some (intV a) := by
  unfold decimal_Int.f intV
  rw [if_pos (by omega)]
  cases h : rightL a.data.toList with
  | true => rw [intL_right _ h]; rfl
  | false => rw [intL_wrong _ h]; rfl
theorem intRf (a : ByteArray) (sa : a.size ≤ 1000) (k : Nat) (hk : 3000000 < k) : abridgerref1_Int.f k a = some (intV a) := by
  unfold intV
  cases h : rightL a.data.toList with
  | true => rw [if_pos rfl]; exact rint_f a h (by omega) k (by omega)
  | false => rw [if_neg (by simp)]; exact rint_no a h (by omega) k (by omega)
theorem tells_core (K : Nat) (hK : 3000010 ≤ K) (a b : ByteArray) (sa : a.size ≤ 1000) (sb : b.size ≤ 1000) (x : Bool) : abridgerlaw4_DecimalTells.j0 (K + 1) a b x false = some true := by
  simp only [abridgerlaw4_DecimalTells.j0]
  rw [if_neg (by simp), addI a b sa sb K (by omega), addR a b sa sb K (by omega), intI a sa, intRf a sa K (by omega), right_f a (by omega) K (by omega), lessI a b sa sb K (by omega), lessR a b sa sb K (by omega)]
  unfold decimal_Right.f
  simp only [ob]
  generalize addV a b = u
  generalize lessV a b = v
  generalize intV a = z
  generalize rightL a.data.toList = w
  simp
theorem DecimalTells : abridgerlaw4_DecimalTells.Pure := by
  intro a b _ _
  obtain ⟨K, hK⟩ : ∃ K : Nat, 3000010 ≤ K := ⟨3000010, Nat.le_refl _⟩
  refine ⟨K + 1, ?_⟩
  have out : ∀ x7, abridgerlaw4_DecimalTells.j0 (K + 1) a b x7 true = some x7 := fun x7 => by simp only [abridgerlaw4_DecimalTells.j0]; rw [if_pos trivial]
  unfold abridgerlaw4_DecimalTells.f
  rw [alive_f _ (by omega)]
  simp only [ob]
  rw [if_pos trivial]
  by_cases ha : (a.size : Int) > 200
  · rw [if_pos ha, out]
  rw [if_neg ha]
  by_cases hb : (b.size : Int) > 200
  · have : decide ((b.size : Int) > 200) = true := by simpa using hb
    rw [this, out]
  have : decide ((b.size : Int) > 200) = false := by simpa using hb
  rw [this]
  exact tells_core K hK a b (by omega) (by omega) true

end Go.Proofs.YthimiidnbnlemaaDoor.Pure
