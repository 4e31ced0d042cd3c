/- DecimalOrder: of two numbers one is less, or they are one, and adding the same to both turns nothing of it: out of 'each number is the one spelling of a whole number'. -/
import Derived.Test.YthimiidnbnlemaaDoorPDecR
import Derived.Test.YthimiidnbnlemaaDoorPx10
set_option linter.unusedVariables false
set_option linter.unusedSimpArgs false
namespace Go.Proofs.YthimiidnbnlemaaDoor.Pure
open Go.RowKit Go.Proofs.YthimiidnbnlemaaDoorX Go.Proofs.YthimiidnbnlemaaDoorD Go.Proofs.YthimiidnbnlemaaDoor.P Go.Proofs.YthimiidnbnlemaaDoorW.PrintWords Go.Proofs.YthimiidnbnlemaaDoorW.PrintLast Go.Proofs.YthimiidnbnlemaaDoorW.PrintMore

theorem order_core (K : Nat) (hK : 100000 ≤ K) (a b c : Int) (ha : Fits a 100) (hb : Fits b 100) (hc : Fits c 100) (x7 : Bool) :
    abridgerlaw4_DecimalOrder.j0 (K + 4) (S a) (S b) (S c) x7 false = some true := by
  have za := S_size_le a 100 ha (by omega)
  have zb := S_size_le b 100 hb (by omega)
  have zc := S_size_le c 100 hc (by omega)
  have zac := S_size_le _ _ (ha.add hc) (by omega)
  have zbc := S_size_le _ _ (hb.add hc) (by omega)
  have heq : ∀ {m n : Int}, (S m).toList = (S n).toList ↔ m = n := fun {m n} => by
    rw [toList_inj]; exact ⟨S_inj, fun h => by rw [h]⟩
  have last : abridgerlaw4_DecimalOrder.j3 (K + 1) (S a) (S b) (S c) 1 = some true := by
    simp only [abridgerlaw4_DecimalOrder.j3]
    rw [add_S a c (by omega) (by omega) K (by omega), add_S b c (by omega) (by omega) K (by omega)]
    simp only [Option.bind_some]
    rw [if_pos trivial, less_S (a + c) (b + c) (by omega) (by omega) K (by omega), less_S a b (by omega) (by omega) K (by omega)]
    simp only [Option.bind_some]
    have : decide (a + c < b + c) = decide (a < b) := decide_eq_decide.2 (by omega)
    rw [this]; simp
  have w1 : wrap64 (0 + 1 : Int) = 1 := w64 (by omega) (by omega)
  simp only [abridgerlaw4_DecimalOrder.j0]
  rw [if_neg (by simp), less_S a b (by omega) (by omega) _ (by omega)]
  simp only [Option.bind_some]
  rcases Int.lt_trichotomy a b with h | h | h
  · rw [if_pos (by simpa using h)]
    simp only [abridgerlaw4_DecimalOrder.j1]
    rw [less_S b a (by omega) (by omega) _ (by omega)]
    simp only [Option.bind_some]
    rw [if_neg (by simp; omega)]
    simp only [abridgerlaw4_DecimalOrder.j2]
    rw [if_neg (fun e => by have := heq.1 e; omega)]
    exact last
  · subst h
    rw [if_neg (by simp)]
    simp only [abridgerlaw4_DecimalOrder.j1]
    rw [less_S a a (by omega) (by omega) _ (by omega)]
    simp only [Option.bind_some]
    rw [if_neg (by simp)]
    simp only [abridgerlaw4_DecimalOrder.j2]
    rw [if_pos trivial, w1]
    exact last
  · rw [if_neg (by simp; omega)]
    simp only [abridgerlaw4_DecimalOrder.j1]
    rw [less_S b a (by omega) (by omega) _ (by omega)]
    simp only [Option.bind_some]
    rw [if_pos (by simpa using h), w1]
    simp only [abridgerlaw4_DecimalOrder.j2]
    rw [if_neg (fun e => by have := heq.1 e; omega)]
    exact last
theorem DecimalOrder : abridgerlaw4_DecimalOrder.Pure := by
  intro a b c _ _ _
  obtain ⟨K, hK⟩ : ∃ K : Nat, 100000 ≤ K := ⟨100000, Nat.le_refl _⟩
  refine ⟨K + 4, ?_⟩
  have out : ∀ x7, abridgerlaw4_DecimalOrder.j0 (K + 4) a b c x7 true = some x7 := fun x7 => by simp only [abridgerlaw4_DecimalOrder.j0]; rw [if_pos trivial]
  unfold abridgerlaw4_DecimalOrder.f
  rw [alive_f _ (by omega)]
  simp only [Option.bind_some, if_true]
  by_cases ha : (a.size : Int) > 100
  · rw [if_pos ha, out]
  by_cases hb : (b.size : Int) > 100
  · rw [if_neg ha, if_pos hb, out]
  by_cases hc : (c.size : Int) > 100
  · rw [if_neg ha, if_neg hb, if_pos hc, out]
  rw [if_neg ha, if_neg hb, if_neg hc, right_f a (by omega) _ (by omega)]
  cases ra : rightL a.data.toList with
  | false => simp only [Option.bind_some]; rw [if_neg (by simp), out]
  | true =>
    simp only [Option.bind_some, if_true]
    rw [right_f b (by omega) _ (by omega)]
    cases rb : rightL b.data.toList with
    | false => simp only [Option.bind_some]; rw [if_neg (by simp), out]
    | true =>
      simp only [Option.bind_some, if_true]
      rw [right_f c (by omega) _ (by omega)]
      cases rc : rightL c.data.toList with
      | false => simp only [Option.bind_some]; exact out true
      | true =>
        simp only [Option.bind_some]
        have fa := (fits_of _ ra).mono (n := 100) (by rw [← Lib.size_eq]; omega)
        have fb := (fits_of _ rb).mono (n := 100) (by rw [← Lib.size_eq]; omega)
        have fc := (fits_of _ rc).mono (n := 100) (by rw [← Lib.size_eq]; omega)
        rw [right_S a ra, right_S b rb, right_S c rc]
        exact order_core K hK _ _ _ fa fb fc true

end Go.Proofs.YthimiidnbnlemaaDoor.Pure
