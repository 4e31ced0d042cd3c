/- PLAIN LAWS of number: how long spellings are, and that no text that is the number is shorter than its shortest. -/
import Derived.Test.YthimiidnbnlemaaGreatDoorNumberBackPNumR
set_option linter.unusedVariables false
set_option linter.unusedSimpArgs false
namespace Go.Proofs.YthimiidnbnlemaaGreatDoorD
open Go.RowKit Go.Proofs.YthimiidnbnlemaaGreatDoorX Go.Proofs.YthimiidnbnlemaaGreatDoor.P Go.Proofs.YthimiidnbnlemaaGreatDoorW.PrintWords Go.Proofs.YthimiidnbnlemaaGreatDoorW.PrintLast Go.Proofs.YthimiidnbnlemaaGreatDoorW.PrintMore
theorem least_le : ∀ (r : List (List UInt8)) (b : List UInt8), (least b r).length ≤ b.length ∧ ∀ x ∈ r, (least b r).length ≤ x.length
  | [], b => ⟨Nat.le_refl _, fun x hx => by cases hx⟩
  | y :: r, b => by
    have ih := least_le r (if y.length < b.length then y else b)
    have hq : (if y.length < b.length then y else b).length ≤ b.length ∧ (if y.length < b.length then y else b).length ≤ y.length := by
      split <;> omega
    unfold least
    refine ⟨by omega, fun x hx => ?_⟩
    cases hx with
    | head => omega
    | tail _ h => exact ih.2 x h
theorem shortL_le (xs : List (List UInt8)) (x : List UInt8) (h : x ∈ xs) : (shortL xs).length ≤ x.length := by
  cases xs with
  | nil => cases h
  | cons y r =>
    unfold shortL
    cases h with
    | head => exact (least_le r _).1
    | tail _ h => exact (least_le r y).2 x h
theorem least_mem : ∀ (r : List (List UInt8)) (b : List UInt8), least b r = b ∨ least b r ∈ r
  | [], b => Or.inl rfl
  | y :: r, b => by
    unfold least
    rcases least_mem r (if y.length < b.length then y else b) with h | h
    · rw [h]
      split
      · exact Or.inr (List.mem_cons_self ..)
      · exact Or.inl rfl
    · exact Or.inr (List.mem_cons_of_mem _ h)
theorem shortL_mem (xs : List (List UInt8)) (h : xs ≠ []) : shortL xs ∈ xs := by
  cases xs with
  | nil => exact absurd rfl h
  | cons y r =>
    show least y r ∈ y :: r
    rcases least_mem r y with h | h
    · rw [h]; exact List.mem_cons_self ..
    · exact List.mem_cons_of_mem _ h
end Go.Proofs.YthimiidnbnlemaaGreatDoorD
