/- ColourWhere: of fifteen style sheets: colours are told just where a declaration of a colour has them. -/
import Derived.Test.YthonpnaccjajcaaGreatDoorColourWherePCol
import Derived.Test.YthonpnaccjajcaaGreatDoorColourWherePx44
set_option linter.unusedVariables false
set_option linter.unusedSimpArgs false
namespace Go.Proofs.YthonpnaccjajcaaGreatDoor.Pure
open Go.RowKit Go.Proofs.YthonpnaccjajcaaGreatDoorX Go.Proofs.YthonpnaccjajcaaGreatDoorC Go.Proofs.YthonpnaccjajcaaGreatDoor.P Go.Proofs.YthonpnaccjajcaaGreatDoorW.PrintWords Go.Proofs.YthonpnaccjajcaaGreatDoorW.PrintLast Go.Proofs.YthonpnaccjajcaaGreatDoorW.PrintMore
theorem where_alive (k : Nat) (hk : 400 ≤ k) : l19_alive.f k = some true := by
  unfold l19_alive.f
  rw [spell_white, named_red k hk]
  decide +kernel
def sheets : List ByteArray := [(⟨#[97, 123, 99, 111, 108, 111, 114, 58, 114, 101, 100, 125]⟩ : ByteArray), (⟨#[97, 123, 99, 111, 108, 111, 117, 114, 58, 114, 101, 100, 125]⟩ : ByteArray), (⟨#[114, 101, 100, 123, 99, 111, 108, 111, 114, 58, 35, 97, 98, 99, 125]⟩ : ByteArray), (⟨#[97, 123, 99, 111, 108, 111, 114, 58, 102, 40, 114, 101, 100, 41, 125]⟩ : ByteArray), (⟨#[97, 123, 99, 111, 108, 111, 114, 58, 102, 40, 114, 101, 100, 41, 116, 97, 110, 125]⟩ : ByteArray), (⟨#[97, 123, 67, 79, 76, 79, 82, 58, 35, 65, 66, 67, 68, 69, 70, 125]⟩ : ByteArray), (⟨#[97, 123, 99, 111, 108, 111, 114, 58, 114, 101, 100, 59, 98, 58, 114, 101, 100, 125]⟩ : ByteArray), (⟨#[97, 123, 102, 105, 108, 108, 58, 114, 101, 100, 32, 98, 108, 117, 101, 125]⟩ : ByteArray), (⟨#[99, 111, 108, 111, 114, 58, 114, 101, 100]⟩ : ByteArray), (⟨#[97, 123, 99, 111, 108, 111, 114, 58, 35, 49, 50, 125]⟩ : ByteArray), (⟨#[97, 123, 99, 111, 108, 111, 114, 58, 114, 101, 100, 115, 125]⟩ : ByteArray), (⟨#[97, 123, 98, 111, 114, 100, 101, 114, 45, 99, 111, 108, 111, 114, 58, 114, 101, 100, 32, 116, 97, 110, 32, 35, 48, 48, 48, 125]⟩ : ByteArray), (⟨#[97, 123, 98, 123, 115, 116, 114, 111, 107, 101, 58, 114, 101, 100, 125, 125]⟩ : ByteArray), (⟨#[97, 123, 99, 111, 108, 111, 114, 58, 40, 114, 101, 100, 41, 125]⟩ : ByteArray), (⟨#[97, 123, 99, 111, 108, 111, 114, 58, 114, 101, 100]⟩ : ByteArray)]
def counts : List Int := [1, 0, 1, 0, 1, 1, 1, 2, 0, 0, 0, 3, 1, 0, 1]
set_option maxRecDepth 100000 in
theorem where_all : ∀ n : Nat, n < 15 → l19_ColourWhere.j0 401 (n : Int) true sheets counts false = some true := by decide +kernel
theorem ColourWhere : l19_ColourWhere.Pure := by
  intro a _
  refine ⟨401, ?_⟩
  have out : l19_ColourWhere.j0 401 a true sheets counts true = some true := by unfold l19_ColourWhere.j0; rfl
  unfold l19_ColourWhere.f
  rw [where_alive 401 (by omega), Option.bind_some, Option.bind_some, Option.bind_some, if_pos rfl]
  show (if a < 0 then l19_ColourWhere.j0 401 a true sheets counts true else l19_ColourWhere.j0 401 a true sheets counts (decide (a ≥ (15 : Int)))) = some true
  by_cases h1 : a < 0
  · rw [if_pos h1, out]
  rw [if_neg h1]
  by_cases h2 : a ≥ 15
  · rw [show decide (a ≥ (15 : Int)) = true from decide_eq_true h2, out]
  · rw [show decide (a ≥ (15 : Int)) = false from decide_eq_false h2]
    obtain ⟨n, rfl⟩ := Int.eq_ofNat_of_zero_le (show 0 ≤ a by omega)
    exact where_all n (by omega)
end Go.Proofs.YthonpnaccjajcaaGreatDoor.Pure
