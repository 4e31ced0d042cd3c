/- PLAIN LAWS of number: how long spellings are, and that no text that is the number is shorter than its shortest. -/
import Derived.Test.YthimiidnbnlemaaGreatDoorNumberLeastPNumR
set_option linter.unusedVariables false
set_option linter.unusedSimpArgs false
namespace Go.Proofs.YthimiidnbnlemaaGreatDoorD
open Go.RowKit Go.Proofs.YthimiidnbnlemaaGreatDoorX Go.Proofs.YthimiidnbnlemaaGreatDoor.P Go.Proofs.YthimiidnbnlemaaGreatDoorW.PrintWords Go.Proofs.YthimiidnbnlemaaGreatDoorW.PrintLast Go.Proofs.YthimiidnbnlemaaGreatDoorW.PrintMore
def dl (n : Nat) : Nat := (Lib.decDigits n).length
theorem dl_pos (n : Nat) : 1 ≤ dl n := List.length_pos_iff.2 (dec_ne n)
theorem dl_mono {m n : Nat} (h : m ≤ n) : dl m ≤ dl n := by
  apply Nat.le_of_not_lt
  intro h2
  have := dec_len_lt h2
  omega
theorem dl_step (n d : Nat) (hn : 0 < n) (hd : d < 10) : dl (10 * n + d) = dl n + 1 := by
  unfold dl; rw [dec_step n d hn hd]; simp
theorem dl_le (n m : Nat) (h : n < 10 ^ m) (hm : 1 ≤ m) : dl n ≤ m := dec_len_le n m h hm
theorem dl_pow (m : Nat) (hm : 0 < m) : ∀ n, dl (m * 10 ^ n) = dl m + n
  | 0 => by simp
  | n + 1 => by
    have e : m * 10 ^ (n + 1) = 10 * (m * 10 ^ n) + 0 := by rw [Nat.pow_succ, ← Nat.mul_assoc]; omega
    rw [e, dl_step _ 0 (Nat.mul_pos hm (Nat.pow_pos (by omega))) (by omega), dl_pow m hm n]
    omega
theorem dl_succ (n : Nat) : dl (n + 1) ≤ dl n + 1 := by
  by_cases h : n = 0
  · subst h
    have := dl_le 1 1 (by omega) (by omega)
    show dl 1 ≤ _
    omega
  · have := dl_mono (show n + 1 ≤ 10 * n + 9 from by omega)
    rw [dl_step n 9 (by omega) (by omega)] at this
    exact this
theorem dl_three (a j : Nat) (ha : 1 ≤ a) (hj : j ≤ 198) : dl (a + j) ≤ dl a + 2 := by
  have := dl_mono (show a + j ≤ 10 * (10 * a + 9) + 9 from by omega)
  rw [dl_step _ 9 (by omega) (by omega), dl_step a 9 (by omega) (by omega)] at this
  omega
def ln (x : Int) : Nat := (Lib.itoa x).length
theorem ln_pos (n : Nat) : ln (n : Int) = dl n := by unfold ln dl; rw [Lib.itoa_nonneg]
theorem ln_neg (n : Nat) (h : 0 < n) : ln (-(n : Int)) = dl n + 1 := by unfold ln dl; rw [Lib.itoa_neg n h]; rfl
theorem ln_of (x : Int) : ln x = if x < 0 then dl x.natAbs + 1 else dl x.natAbs := by
  by_cases h : x < 0
  · rw [if_pos h]
    have := ln_neg x.natAbs (by omega)
    rwa [show -((x.natAbs : Nat) : Int) = x from by omega] at this
  · rw [if_neg h]
    have := ln_pos x.natAbs
    rwa [show ((x.natAbs : Nat) : Int) = x from by omega] at this
theorem ln_succ (x : Int) : ln (x + 1) ≤ ln x + 1 := by
  rw [ln_of, ln_of]
  by_cases h : x < 0
  · rw [if_pos h]
    by_cases h1 : x + 1 < 0
    · rw [if_pos h1]
      have := dl_mono (show (x + 1).natAbs ≤ x.natAbs from by omega)
      omega
    · rw [if_neg h1]
      have := dl_mono (show (x + 1).natAbs ≤ x.natAbs from by omega)
      omega
  · rw [if_neg h, if_neg (by omega), show (x + 1).natAbs = x.natAbs + 1 from by omega]
    exact dl_succ _
theorem ln_add (x : Int) : ∀ n : Nat, ln (x + n) ≤ ln x + n
  | 0 => by simp
  | n + 1 => by
    have h1 := ln_add x n
    have h2 := ln_succ (x + n)
    rw [show x + ((n + 1 : Nat) : Int) = x + n + 1 from by omega]
    omega
theorem mem_spell (d : List UInt8) (X : Int) : ∃ s ∈ plainL d X, s.length = d.length + 1 + ln X :=
  ⟨spell d X, by unfold plainL; simp, by unfold spell ln; simp; omega⟩
theorem mem_zeros (d : List UInt8) (X : Int) (h1 : 0 ≤ X) (h2 : X ≤ 20) : ∃ s ∈ plainL d X, (s.length : Int) = d.length + X :=
  ⟨d ++ List.replicate X.toNat 48, by unfold plainL firstsL; rw [if_pos ⟨h1, h2⟩]; simp, by simp; omega⟩
theorem mem_point (d : List UInt8) (X : Int) (h1 : X < 0) (h2 : -(d.length : Int) < X) : ∃ s ∈ plainL d X, s.length = d.length + 1 :=
  ⟨d.take ((d.length : Int) + X).toNat ++ 46 :: d.drop ((d.length : Int) + X).toNat, by unfold plainL firstsL; rw [if_neg (by omega), if_pos ⟨h1, h2⟩]; simp, by simp; omega⟩
theorem mem_nought (d : List UInt8) (X : Int) (h0 : X < 0) (h1 : X ≤ -(d.length : Int)) (h2 : -(d.length : Int) - 20 ≤ X) : ∃ s ∈ plainL d X, (s.length : Int) = 2 - X :=
  ⟨48 :: 46 :: (List.replicate (-X - (d.length : Int)).toNat 48 ++ d), by unfold plainL firstsL; rw [if_neg (by omega), if_neg (by omega), if_pos ⟨h1, h2⟩]; simp, by simp; omega⟩
theorem mem_last (d : List UInt8) (X : Int) (h1 : 1 < d.length) (h2 : X + ((d.length : Int) - 1) ≠ 0) : ∃ s ∈ plainL d X, s.length = d.length + 2 + ln (X + ((d.length : Int) - 1)) :=
  ⟨d.take 1 ++ 46 :: d.drop 1 ++ 101 :: Lib.itoa (X + ((d.length : Int) - 1)), by unfold plainL lastsL; rw [if_pos ⟨h1, h2⟩]; simp, by unfold ln; simp; omega⟩
theorem least_arith (d : List UInt8) (hd : 1 ≤ d.length) (n Lw Lp Le T : Nat) (e : Int) (hw : 1 ≤ Lw) (hs : d.length + n ≤ Lw + Lp) (hT : T = Lw + (if Lp = 0 then 0 else 1 + Lp) + Le) (h200 : T ≤ 200)
    (he : (Le = 0 ∧ e = 0) ∨ 1 + ln e ≤ Le) : ∃ s ∈ plainL d (e + n - Lp), s.length ≤ T := by
  obtain ⟨X, hX⟩ : ∃ X : Int, X = e + n - Lp := ⟨_, rfl⟩
  rw [← hX]
  have small : ∀ x : Int, x.natAbs < 1000 → ln x ≤ 4 := by
    intro x hx
    have := dl_le x.natAbs 3 (by omega) (by omega)
    rw [ln_of]
    split <;> omega
  have spellW : ln X + d.length + 1 ≤ T → ∃ s ∈ plainL d X, s.length ≤ T := by
    intro h
    obtain ⟨s, h1, h2⟩ := mem_spell d X
    exact ⟨s, h1, by omega⟩
  have pointW : X < 0 → -(d.length : Int) < X → d.length + 1 ≤ T → ∃ s ∈ plainL d X, s.length ≤ T := by
    intro h h' h''
    obtain ⟨s, h1, h2⟩ := mem_point d X h h'
    exact ⟨s, h1, by omega⟩
  rcases he with ⟨h0, h1⟩ | he
  · -- no e
    subst h0 h1
    by_cases hp : Lp = 0
    · rw [if_pos hp] at hT
      by_cases h20 : X ≤ 20
      · obtain ⟨s, h1, h2⟩ := mem_zeros d X (by omega) h20
        exact ⟨s, h1, by omega⟩
      · have := small X (by omega)
        exact spellW (by omega)
    · rw [if_neg hp] at hT
      by_cases hx0 : 0 ≤ X
      · by_cases h20 : X ≤ 20
        · obtain ⟨s, h1, h2⟩ := mem_zeros d X (by omega) h20
          exact ⟨s, h1, by omega⟩
        · have := small X (by omega)
          exact spellW (by omega)
      · by_cases hk : -(d.length : Int) < X
        · exact pointW (by omega) hk (by omega)
        · by_cases h20 : -(d.length : Int) - 20 ≤ X
          · obtain ⟨s, h1, h2⟩ := mem_nought d X (by omega) (by omega) h20
            exact ⟨s, h1, by omega⟩
          · have := small X (by omega)
            exact spellW (by omega)
  · by_cases hn : Lp ≤ n
    · -- the exponent grows
      have := ln_add e (n - Lp)
      rw [show e + ((n - Lp : Nat) : Int) = X from by omega] at this
      have hp : Lw + Lp ≤ Lw + (if Lp = 0 then 0 else 1 + Lp) := by split <;> omega
      exact spellW (by omega)
    · have hp : Lp ≠ 0 := by omega
      rw [if_neg hp] at hT
      have le1 : 1 ≤ ln e := by rw [ln_of]; have := dl_pos e.natAbs; split <;> omega
      by_cases h0 : 0 ≤ e
      · by_cases hx0 : 0 ≤ X
        · have h1 := ln_of e
          have h2 := ln_of X
          rw [if_neg (by omega)] at h1 h2
          have := dl_mono (show X.natAbs ≤ e.natAbs from by omega)
          exact spellW (by omega)
        · by_cases hk : -(d.length : Int) < X
          · exact pointW (by omega) hk (by omega)
          · by_cases h20 : -(d.length : Int) - 20 ≤ X
            · obtain ⟨s, h1, h2⟩ := mem_nought d X (by omega) (by omega) h20
              exact ⟨s, h1, by omega⟩
            · have := small X (by omega)
              exact spellW (by omega)
      · have h1 := ln_of e
        have h2 := ln_of X
        rw [if_pos (by omega)] at h1 h2
        by_cases hz : d.length + n = Lw + Lp
        · by_cases hk : -(d.length : Int) < X
          · exact pointW (by omega) hk (by omega)
          · obtain ⟨s, h3, h4⟩ := mem_last d X (by omega) (by omega)
            have h5 := ln_of (X + ((d.length : Int) - 1))
            rw [if_pos (by omega)] at h5
            have := dl_mono (show (X + ((d.length : Int) - 1)).natAbs ≤ e.natAbs from by omega)
            exact ⟨s, h3, by omega⟩
        · have := dl_three e.natAbs (Lp - n) (by omega) (by omega)
          rw [show e.natAbs + (Lp - n) = X.natAbs from by omega] at this
          exact spellW (by omega)
theorem least_le : ∀ (r : List (List UInt8)) (b : List UInt8), (least b r).length ≤ b.length ∧ ∀ x ∈ r, (least b r).length ≤ x.length
  | [], b => ⟨Nat.le_refl _, fun x hx => by cases hx⟩
  | y :: r, b => by
    have ih := least_le r (if y.length < b.length then y else b)
    have hq : (if y.length < b.length then y else b).length ≤ b.length ∧ (if y.length < b.length then y else b).length ≤ y.length := by
      split <;> omega
    unfold least
    refine ⟨by omega, fun x hx => ?_⟩
    cases hx with
    | head => omega
    | tail _ h => exact ih.2 x h
theorem shortL_le (xs : List (List UInt8)) (x : List UInt8) (h : x ∈ xs) : (shortL xs).length ≤ x.length := by
  cases xs with
  | nil => cases h
  | cons y r =>
    unfold shortL
    cases h with
    | head => exact (least_le r _).1
    | tail _ h => exact (least_le r y).2 x h
theorem least_mem : ∀ (r : List (List UInt8)) (b : List UInt8), least b r = b ∨ least b r ∈ r
  | [], b => Or.inl rfl
  | y :: r, b => by
    unfold least
    rcases least_mem r (if y.length < b.length then y else b) with h | h
    · rw [h]
      split
      · exact Or.inr (List.mem_cons_self ..)
      · exact Or.inl rfl
    · exact Or.inr (List.mem_cons_of_mem _ h)
theorem shortL_mem (xs : List (List UInt8)) (h : xs ≠ []) : shortL xs ∈ xs := by
  cases xs with
  | nil => exact absurd rfl h
  | cons y r =>
    show least y r ∈ y :: r
    rcases least_mem r y with h | h
    · rw [h]; exact List.mem_cons_self ..
    · exact List.mem_cons_of_mem _ h
end Go.Proofs.YthimiidnbnlemaaGreatDoorD
