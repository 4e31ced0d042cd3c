/- PLAIN LAWS of the reference's functions of chapter 4: what reckon, Add, LessDecimal, Int and Dec come to. -/
import Derived.Test.YthimiidnbnlemaaGreatDoorNumberBackPDecR
import Derived.Test.YthimiidnbnlemaaGreatDoorNumberBackPx15
import Derived.Test.YthimiidnbnlemaaGreatDoorNumberBackPx16
import Derived.Test.YthimiidnbnlemaaGreatDoorNumberBackPx20
import Derived.Test.YthimiidnbnlemaaGreatDoorNumberBackPx17
set_option linter.unusedVariables false
set_option linter.unusedSimpArgs false
namespace Go.Proofs.YthimiidnbnlemaaGreatDoorD
open Go.RowKit Go.Proofs.YthimiidnbnlemaaGreatDoorX Go.Proofs.YthimiidnbnlemaaGreatDoor.P Go.Proofs.YthimiidnbnlemaaGreatDoorW.PrintWords Go.Proofs.YthimiidnbnlemaaGreatDoorW.PrintLast Go.Proofs.YthimiidnbnlemaaGreatDoorW.PrintMore
theorem S_zero_iff (n : Int) : (S n).toList = ([48] : List UInt8) ↔ n = 0 := by
  have e : ([48] : List UInt8) = (S 0).toList := by
    rw [Lib.toList_data, S_list]; show [48] = Lib.itoa ((0 : Nat) : Int); rw [Lib.itoa_nonneg, dec_zero]
  rw [e, toList_inj]
  exact ⟨S_inj, fun h => by rw [h]⟩
def fold (acc : Nat) (l : List UInt8) : Nat := l.foldl (fun a c => 10 * a + dv c) acc
theorem fold_ge : ∀ (l : List UInt8) (acc : Nat), acc ≤ fold acc l
  | [], acc => Nat.le_refl _
  | c :: r, acc => by
    show acc ≤ fold (10 * acc + dv c) r
    have := fold_ge r (10 * acc + dv c); omega
theorem parse_dig : ∀ (l : List UInt8) (acc : Nat), l.all isDig = true → acc < 18446744073709551616 →
    (fold acc l < 18446744073709551616 → Lib.parseUint10 acc l = .ok (fold acc l)) ∧ (18446744073709551616 ≤ fold acc l → Lib.parseUint10 acc l = .range)
  | [], acc, _, ha => ⟨fun _ => rfl, fun h => absurd h (by show ¬ _ ≤ acc; omega)⟩
  | c :: r, acc, h, ha => by
    simp only [List.all_cons, Bool.and_eq_true] at h
    have hc := (isDig_iff c).1 h.1
    have hd : dv c = c.toNat - 48 := rfl
    have e : fold acc (c :: r) = fold (10 * acc + dv c) r := rfl
    rw [e]
    have hg := fold_ge r (10 * acc + dv c)
    unfold Lib.parseUint10
    rw [if_pos hc, show acc * 10 + (c.toNat - 48) = 10 * acc + dv c by omega]
    by_cases h1 : 1844674407370955162 ≤ acc
    · rw [if_pos h1]
      exact ⟨fun h => by omega, fun _ => rfl⟩
    · rw [if_neg h1]
      by_cases h2 : 18446744073709551616 ≤ 10 * acc + dv c
      · rw [if_pos h2]
        exact ⟨fun h => by omega, fun _ => rfl⟩
      · rw [if_neg h2]
        exact parse_dig r _ h.2 (by omega)
theorem parseMag_dig (l : List UInt8) (h : l.all isDig = true) (hne : l ≠ []) : (val l < 18446744073709551616 → Lib.parseMag l = .ok (val l)) ∧ (18446744073709551616 ≤ val l → Lib.parseMag l = .range) := by
  unfold Lib.parseMag
  rw [if_neg hne]
  exact parse_dig l 0 h (by omega)
def intR (n : Int) : Int × Bool := if -1000000 ≤ n ∧ n ≤ 1000000 then (n, true) else (0, false)
theorem intL_right (l : List UInt8) (h : rightL l = true) : intL l = intR (toI l) := by
  have hd := right_dig l h
  obtain ⟨e, hn⟩ := rightL_spec l h
  have hne : (cutMinus l).1 ≠ [] := by rw [e]; exact dec_ne _
  obtain ⟨p1, p2⟩ := parseMag_dig _ hd hne
  unfold intL intR toI
  cases l with
  | nil => exact absurd h (by decide)
  | cons c r =>
    by_cases hc : c = 45
    · subst hc
      have ec : cutMinus (45 :: r) = (r, true) := rfl
      rw [ec] at p1 p2 ⊢
      simp only [if_true] at p1 p2 ⊢
      have ea : Lib.atoiAll (45 :: r) = (match Lib.parseMag r with
        | .ok u => if 9223372036854775808 < u then .range else .ok (-(u : Int))
        | .range => .range
        | z => Lib.atoiAll []) := by
        unfold Lib.atoiAll
        have e45 : (45 : UInt8).toNat = 45 := rfl
        simp only [e45]
        rw [if_pos (by simp)]
        cases Lib.parseMag r with
        | ok u => simp
        | range => rfl
        | _ => rfl
      by_cases hv : val r < 18446744073709551616
      · rw [ea, p1 hv]
        simp only []
        by_cases h3 : 9223372036854775808 < val r
        · rw [if_pos h3]
          simp only []
          have h5 : ¬ (-1000000 ≤ -((val r : Nat) : Int) ∧ -((val r : Nat) : Int) ≤ 1000000) := fun h => by have := h.1; omega
          rw [if_neg h5]
        · rw [if_neg h3, h]
          simp only []
          by_cases h4 : -1000000 ≤ -((val r : Nat) : Int) ∧ -((val r : Nat) : Int) ≤ 1000000
          · rw [if_pos ⟨trivial, h4⟩, if_pos h4]
          · rw [if_neg (fun z => h4 z.2), if_neg h4]
      · rw [ea, p2 (by omega)]
        simp only []
        rw [if_neg (by omega)]
    · have ec : cutMinus (c :: r) = (c :: r, false) := by
        unfold cutMinus
        split
        · rename_i h; injection h with h; exact absurd h hc
        · rfl
      rw [ec] at p1 p2 hd ⊢
      simp only [Bool.false_eq_true, if_false] at p1 p2 hd ⊢
      have hcd : isDig c = true := by
        have h2 : (c :: r).all isDig = true := hd
        simp only [List.all_cons, Bool.and_eq_true] at h2; exact h2.1
      have hcn := (isDig_iff c).1 hcd
      have ea : Lib.atoiAll (c :: r) = (match Lib.parseMag (c :: r) with
        | .ok u => if 9223372036854775808 ≤ u then .range else .ok ((u : Int))
        | .range => .range
        | z => Lib.atoiAll []) := by
        unfold Lib.atoiAll
        simp only []
        rw [if_neg (by omega)]
        have hcf : ¬ c.toNat = 45 := by omega
        cases Lib.parseMag (c :: r) with
        | ok u => simp [hcf]
        | range => rfl
        | _ => rfl
      by_cases hv : val (c :: r) < 18446744073709551616
      · rw [ea, p1 hv]
        simp only []
        by_cases h3 : 9223372036854775808 ≤ val (c :: r)
        · rw [if_pos h3]
          simp only []
          rw [if_neg (by omega)]
        · rw [if_neg h3, h]
          simp only []
          by_cases h4 : -1000000 ≤ ((val (c :: r) : Nat) : Int) ∧ ((val (c :: r) : Nat) : Int) ≤ 1000000
          · rw [if_pos ⟨trivial, h4⟩, if_pos h4]
          · rw [if_neg (fun z => h4 z.2), if_neg h4]
      · rw [ea, p2 (by omega)]
        simp only []
        rw [if_neg (by omega)]
end Go.Proofs.YthimiidnbnlemaaGreatDoorD
