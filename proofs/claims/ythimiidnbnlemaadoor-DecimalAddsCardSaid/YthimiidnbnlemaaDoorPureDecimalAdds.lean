/- DecimalAdds: it is one in which order numbers are added, nought adds nothing, and what is added can be taken off: out of 'each number is the one spelling of a whole number'. -/
import Derived.Test.YthimiidnbnlemaaDoorPDecR
import Derived.Test.YthimiidnbnlemaaDoorPx9
set_option linter.unusedVariables false
set_option linter.unusedSimpArgs false
namespace Go.Proofs.YthimiidnbnlemaaDoor.Pure
open Go.RowKit Go.Proofs.YthimiidnbnlemaaDoorX Go.Proofs.YthimiidnbnlemaaDoorD Go.Proofs.YthimiidnbnlemaaDoor.P Go.Proofs.YthimiidnbnlemaaDoorW.PrintWords Go.Proofs.YthimiidnbnlemaaDoorW.PrintLast Go.Proofs.YthimiidnbnlemaaDoorW.PrintMore

theorem S0 : (⟨#[48]⟩ : ByteArray) = S 0 := by apply of_list; rw [S_list]; show [48] = Lib.itoa ((0 : Nat) : Int); rw [Lib.itoa_nonneg, dec_zero]
theorem S_list_inj {m n : Int} : (S m).toList = (S n).toList ↔ m = n := by
  rw [toList_inj]
  exact ⟨S_inj, fun h => by rw [h]⟩
theorem adds_core (K : Nat) (hK : 100000 ≤ K) (a b c : Int) (ha : Fits a 100) (hb : Fits b 100) (hc : Fits c 100) (x7 : Bool) :
    abridgerlaw4_DecimalAdds.j0 (K + 3) (S a) (S b) (S c) x7 false = some true := by
  have za := S_size_le a 100 ha (by omega)
  have zb := S_size_le b 100 hb (by omega)
  have zc := S_size_le c 100 hc (by omega)
  have zab := S_size_le _ _ (ha.add hb) (by omega)
  have zbc := S_size_le _ _ (hb.add hc) (by omega)
  have znb := S_size_le (-b) 100 (by unfold Fits at *; omega) (by omega)
  have z0 : (S 0).size ≤ 2 := by rw [← S0]; decide
  have hR : decimal_Right.f (S (a + b)) = some true := by unfold decimal_Right.f; rw [S_right]
  have last : ∀ n : ByteArray, n = S (-b) →
      ((decimal_Add.f K (S (a + b)) n).bind fun bt187 => (decimal_Add.f K (S a) (⟨#[48]⟩ : ByteArray)).bind fun bt189 => (if (S (a + b)).toList = (S (b + a)).toList then (if (S (a + b + c)).toList = (S (a + (b + c))).toList then (if bt187.1.toList = (S a).toList then (if bt189.1.toList = (S a).toList then (if bt189.2 = true then ((decimal_Right.f (S (a + b))).bind fun t191 => (some t191)) else (some false)) else (some false)) else (some false)) else (some false)) else (some false))) = some true := by
    rintro n rfl
    rw [S0, add_S (a + b) (-b) (by omega) (by omega) K (by omega), add_S a 0 (by omega) (by omega) K (by omega)]
    simp only [Option.bind_some]
    rw [if_pos (S_list_inj.2 (by omega)), if_pos (S_list_inj.2 (by omega)), if_pos (S_list_inj.2 (by omega)), if_pos (S_list_inj.2 (by omega)), if_pos trivial, hR]
    rfl
  simp only [abridgerlaw4_DecimalAdds.j0]
  rw [if_neg (by simp), add_S a b (by omega) (by omega) (K + 2) (by omega), add_S b a (by omega) (by omega) (K + 2) (by omega)]
  simp only [Option.bind_some]
  rw [add_S (a + b) c (by omega) (by omega) (K + 2) (by omega), add_S b c (by omega) (by omega) (K + 2) (by omega)]
  simp only [Option.bind_some]
  rw [add_S a (b + c) (by omega) (by omega) (K + 2) (by omega)]
  simp only [Option.bind_some]
  rw [if_pos (by omega)]
  have hb0 : (S b).toList = ([48] : List UInt8) ↔ b = 0 := by
    have : ([48] : List UInt8) = (S 0).toList := by rw [← S0, Lib.toList_data]
    rw [this]; exact S_list_inj
  have hh : ∀ n : ByteArray, (b < 0 → (S b).extract 1 (S b).size = S (-b)) → (¬ b < 0 → n = S (-b)) → abridgerlaw4_DecimalAdds.j1 (K + 2) (S a) (S b) (S (a + b)) (S (b + a)) (S (a + b + c)) (S (a + (b + c))) n = some true := by
    intro n h1 h2
    have hz := Lib.size_eq (S b)
    have hpos : 0 < (S b).size := by
      rw [S_size]
      by_cases h0 : b < 0
      · obtain ⟨m, rfl⟩ : ∃ m : Nat, b = -(m : Int) := ⟨b.natAbs, by omega⟩
        rw [Lib.itoa_neg _ (by omega)]; simp
      · obtain ⟨m, rfl⟩ : ∃ m : Nat, b = (m : Int) := ⟨b.toNat, by omega⟩
        rw [Lib.itoa_nonneg]; exact List.length_pos_iff.2 (dec_ne m)
    simp only [abridgerlaw4_DecimalAdds.j1]
    rw [if_pos (by omega), if_pos (by omega)]
    by_cases h0 : b < 0
    · obtain ⟨m, rfl⟩ : ∃ m : Nat, b = -(m : Int) := ⟨b.natAbs, by omega⟩
      have hb45 : bt (S (-(m : Int))) 0 = 45 := bt0 _ 45 (Lib.decDigits m) (by rw [S_list, Lib.itoa_neg _ (by omega)])
      rw [hb45]
      simp only [abridgerlaw4_DecimalAdds.j2]
      rw [if_pos (by rfl), if_pos (by omega)]
      exact last _ (h1 h0)
    · have hb45 : (bt (S b) 0 == 45) = false := by
        obtain ⟨m, rfl⟩ : ∃ m : Nat, b = (m : Int) := ⟨b.toNat, by omega⟩
        have hd := dec_dig m
        cases hx : Lib.decDigits m with
        | nil => exact absurd hx (dec_ne m)
        | cons d r =>
          rw [bt0 _ d r (by rw [S_list, Lib.itoa_nonneg, hx])]
          rw [hx, List.all_cons, Bool.and_eq_true] at hd
          have := (isDig_iff d).1 hd.1
          have : ((d.toNat : Nat) : Int) ≠ 45 := by omega
          simpa using this
      rw [hb45]
      simp only [abridgerlaw4_DecimalAdds.j2]
      rw [if_neg (by simp)]
      exact last _ (h2 h0)
  have hn := neg_S b
  by_cases h0 : b = 0
  · rw [if_pos (hb0.2 h0)]
    exact hh _ (fun h => by omega) (fun _ => by rw [h0]; rfl)
  · rw [if_neg (fun h => h0 (hb0.1 h))]
    rw [if_neg h0] at hn
    refine hh _ (fun h => ?_) (fun h => ?_)
    · rw [if_pos h] at hn; exact hn
    · rw [if_neg h] at hn; exact hn
theorem DecimalAdds : abridgerlaw4_DecimalAdds.Pure := by
  intro a b c _ _ _
  obtain ⟨K, hK⟩ : ∃ K : Nat, 100000 ≤ K := ⟨100000, Nat.le_refl _⟩
  refine ⟨K + 3, ?_⟩
  have out : ∀ x7, abridgerlaw4_DecimalAdds.j0 (K + 3) a b c x7 true = some x7 := fun x7 => by simp only [abridgerlaw4_DecimalAdds.j0]; rw [if_pos trivial]
  unfold abridgerlaw4_DecimalAdds.f
  rw [alive_f _ (by omega)]
  simp only [Option.bind_some, if_true]
  by_cases ha : (a.size : Int) > 100
  · rw [if_pos ha, out]
  by_cases hb : (b.size : Int) > 100
  · rw [if_neg ha, if_pos hb, out]
  by_cases hc : (c.size : Int) > 100
  · rw [if_neg ha, if_neg hb, if_pos hc, out]
  rw [if_neg ha, if_neg hb, if_neg hc, right_f a (by omega) _ (by omega)]
  cases ra : rightL a.data.toList with
  | false => simp only [Option.bind_some]; rw [if_neg (by simp), out]
  | true =>
    simp only [Option.bind_some, if_true]
    rw [right_f b (by omega) _ (by omega)]
    cases rb : rightL b.data.toList with
    | false => simp only [Option.bind_some]; rw [if_neg (by simp), out]
    | true =>
      simp only [Option.bind_some, if_true]
      rw [right_f c (by omega) _ (by omega)]
      cases rc : rightL c.data.toList with
      | false => simp only [Option.bind_some]; exact out true
      | true =>
        simp only [Option.bind_some]
        have fa := (fits_of _ ra).mono (n := 100) (by rw [← Lib.size_eq]; omega)
        have fb := (fits_of _ rb).mono (n := 100) (by rw [← Lib.size_eq]; omega)
        have fc := (fits_of _ rc).mono (n := 100) (by rw [← Lib.size_eq]; omega)
        rw [right_S a ra, right_S b rb, right_S c rc]
        exact adds_core K hK _ _ _ fa fb fc true

end Go.Proofs.YthimiidnbnlemaaDoor.Pure
