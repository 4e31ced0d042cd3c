/- PLAIN LAWS of the reference's functions of chapter 4: what reckon, Add, LessDecimal, Int and Dec come to. -/
import Derived.Test.YthimiidnbnlemaaDoorNumberShiftPDecI
import Derived.Test.YthimiidnbnlemaaDoorNumberShiftPx0
import Derived.Test.YthimiidnbnlemaaDoorNumberShiftPx2
import Derived.Test.YthimiidnbnlemaaDoorNumberShiftPx4
import Derived.Test.YthimiidnbnlemaaDoorNumberShiftPx6
set_option linter.unusedVariables false
set_option linter.unusedSimpArgs false
namespace Go.Proofs.YthimiidnbnlemaaDoorD
open Go.RowKit Go.Proofs.YthimiidnbnlemaaDoorX Go.Proofs.YthimiidnbnlemaaDoor.P Go.Proofs.YthimiidnbnlemaaDoorW.PrintWords Go.Proofs.YthimiidnbnlemaaDoorW.PrintLast Go.Proofs.YthimiidnbnlemaaDoorW.PrintMore
theorem ob {α β : Type} (a : α) (f : α → Option β) : (some a).bind f = f a := (Option.bind_some a f).trans (Eq.refl _)
theorem S_zero_iff (n : Int) : (S n).toList = ([48] : List UInt8) ↔ n = 0 := by
  have e : ([48] : List UInt8) = (S 0).toList := by
    rw [Lib.toList_data, S_list]; show [48] = Lib.itoa ((0 : Nat) : Int); rw [Lib.itoa_nonneg, dec_zero]
  rw [e, toList_inj]
  exact ⟨S_inj, fun h => by rw [h]⟩
def fold (acc : Nat) (l : List UInt8) : Nat := l.foldl (fun a c => 10 * a + dv c) acc
theorem fold_ge : ∀ (l : List UInt8) (acc : Nat), acc ≤ fold acc l
  | [], acc => Nat.le_refl _
  | c :: r, acc => by
    show acc ≤ fold (10 * acc + dv c) r
    have := fold_ge r (10 * acc + dv c); omega
theorem parse_dig : ∀ (l : List UInt8) (acc : Nat), l.all isDig = true → acc < 18446744073709551616 →
    (fold acc l < 18446744073709551616 → Lib.parseUint10 acc l = .ok (fold acc l)) ∧ (18446744073709551616 ≤ fold acc l → Lib.parseUint10 acc l = .range)
  | [], acc, _, ha => ⟨fun _ => rfl, fun h => absurd h (by show ¬ _ ≤ acc; omega)⟩
  | c :: r, acc, h, ha => by
    simp only [List.all_cons, Bool.and_eq_true] at h
    have hc := (isDig_iff c).1 h.1
    have hd : dv c = c.toNat - 48 := rfl
    have e : fold acc (c :: r) = fold (10 * acc + dv c) r := rfl
    rw [e]
    have hg := fold_ge r (10 * acc + dv c)
    unfold Lib.parseUint10
    rw [if_pos hc, show acc * 10 + (c.toNat - 48) = 10 * acc + dv c by omega]
    by_cases h1 : 1844674407370955162 ≤ acc
    · rw [if_pos h1]
      exact ⟨fun h => by omega, fun _ => rfl⟩
    · rw [if_neg h1]
      by_cases h2 : 18446744073709551616 ≤ 10 * acc + dv c
      · rw [if_pos h2]
        exact ⟨fun h => by omega, fun _ => rfl⟩
      · rw [if_neg h2]
        exact parse_dig r _ h.2 (by omega)
theorem parseMag_dig (l : List UInt8) (h : l.all isDig = true) (hne : l ≠ []) : (val l < 18446744073709551616 → Lib.parseMag l = .ok (val l)) ∧ (18446744073709551616 ≤ val l → Lib.parseMag l = .range) := by
  unfold Lib.parseMag
  rw [if_neg hne]
  exact parse_dig l 0 h (by omega)
def intR (n : Int) : Int × Bool := if -1000000 ≤ n ∧ n ≤ 1000000 then (n, true) else (0, false)
theorem intL_right (l : List UInt8) (h : rightL l = true) : intL l = intR (toI l) := by
  have hd := right_dig l h
  obtain ⟨e, hn⟩ := rightL_spec l h
  have hne : (cutMinus l).1 ≠ [] := by rw [e]; exact dec_ne _
  obtain ⟨p1, p2⟩ := parseMag_dig _ hd hne
  unfold intL intR toI
  cases l with
  | nil => exact absurd h (by decide)
  | cons c r =>
    by_cases hc : c = 45
    · subst hc
      have ec : cutMinus (45 :: r) = (r, true) := rfl
      rw [ec] at p1 p2 ⊢
      simp only [if_true] at p1 p2 ⊢
      have ea : Lib.atoiAll (45 :: r) = (match Lib.parseMag r with
        | .ok u => if 9223372036854775808 < u then .range else .ok (-(u : Int))
        | .range => .range
        | z => Lib.atoiAll []) := by
        unfold Lib.atoiAll
        have e45 : (45 : UInt8).toNat = 45 := rfl
        simp only [e45]
        rw [if_pos (by simp)]
        cases Lib.parseMag r with
        | ok u => simp
        | range => rfl
        | _ => rfl
      by_cases hv : val r < 18446744073709551616
      · rw [ea, p1 hv]
        simp only []
        by_cases h3 : 9223372036854775808 < val r
        · rw [if_pos h3]
          simp only []
          have h5 : ¬ (-1000000 ≤ -((val r : Nat) : Int) ∧ -((val r : Nat) : Int) ≤ 1000000) := fun h => by have := h.1; omega
          rw [if_neg h5]
        · rw [if_neg h3, h]
          simp only []
          by_cases h4 : -1000000 ≤ -((val r : Nat) : Int) ∧ -((val r : Nat) : Int) ≤ 1000000
          · rw [if_pos ⟨trivial, h4⟩, if_pos h4]
          · rw [if_neg (fun z => h4 z.2), if_neg h4]
      · rw [ea, p2 (by omega)]
        simp only []
        rw [if_neg (by omega)]
    · have ec : cutMinus (c :: r) = (c :: r, false) := by
        unfold cutMinus
        split
        · rename_i h; injection h with h; exact absurd h hc
        · rfl
      rw [ec] at p1 p2 hd ⊢
      simp only [Bool.false_eq_true, if_false] at p1 p2 hd ⊢
      have hcd : isDig c = true := by
        have h2 : (c :: r).all isDig = true := hd
        simp only [List.all_cons, Bool.and_eq_true] at h2; exact h2.1
      have hcn := (isDig_iff c).1 hcd
      have ea : Lib.atoiAll (c :: r) = (match Lib.parseMag (c :: r) with
        | .ok u => if 9223372036854775808 ≤ u then .range else .ok ((u : Int))
        | .range => .range
        | z => Lib.atoiAll []) := by
        unfold Lib.atoiAll
        simp only []
        rw [if_neg (by omega)]
        have hcf : ¬ c.toNat = 45 := by omega
        cases Lib.parseMag (c :: r) with
        | ok u => simp [hcf]
        | range => rfl
        | _ => rfl
      by_cases hv : val (c :: r) < 18446744073709551616
      · rw [ea, p1 hv]
        simp only []
        by_cases h3 : 9223372036854775808 ≤ val (c :: r)
        · rw [if_pos h3]
          simp only []
          rw [if_neg (by omega)]
        · rw [if_neg h3, h]
          simp only []
          by_cases h4 : -1000000 ≤ ((val (c :: r) : Nat) : Int) ∧ ((val (c :: r) : Nat) : Int) ≤ 1000000
          · rw [if_pos ⟨trivial, h4⟩, if_pos h4]
          · rw [if_neg (fun z => h4 z.2), if_neg h4]
      · rw [ea, p2 (by omega)]
        simp only []
        rw [if_neg (by omega)]
theorem dec_one (d : Nat) (h : d < 10) : ((⟨#[48, 49, 50, 51, 52, 53, 54, 55, 56, 57]⟩ : ByteArray).extract d (d + 1)).data.toList = [UInt8.ofNat (48 + d)] := by
  have : ∀ d : Fin 10, ((⟨#[48, 49, 50, 51, 52, 53, 54, 55, 56, 57]⟩ : ByteArray).extract d.val (d.val + 1)).data.toList = [UInt8.ofNat (48 + d.val)] := by decide
  exact this ⟨d, h⟩
theorem dec_go : ∀ (k n : Nat), n < 10 ^ (k + 1) → n ≤ 1000000000000000000 → r1_Dec.f (k + 1) (n : Int) = some ⟨(Lib.decDigits n).toArray⟩ := by
  intro k
  induction k with
  | zero =>
    intro n hn hm
    have hn : n < 10 := by simpa using hn
    have em : Int.tmod (n : Int) 10 = ((n % 10 : Nat) : Int) := rfl
    simp only [r1_Dec.f]
    rw [if_neg (by omega), em, w64 (by omega) (by omega), if_pos (by omega), if_pos (by omega), if_pos (by omega), if_neg (by omega)]
    refine congrArg some (of_list _ _ ?_)
    rw [show (((n % 10 : Nat) : Int)).toNat = n % 10 by omega, show (((n % 10 : Nat) : Int) + 1).toNat = n % 10 + 1 by omega, dec_one _ (by omega), Lib.decDigits_one hn]
    rw [show n % 10 = n by omega]
  | succ k ih =>
    intro n hn hm
    have em : Int.tmod (n : Int) 10 = ((n % 10 : Nat) : Int) := rfl
    have ed : Int.tdiv (n : Int) 10 = ((n / 10 : Nat) : Int) := rfl
    have e1 := dec_one (n % 10) (by omega)
    simp only [r1_Dec.f]
    rw [if_neg (by omega), em, w64 (x := ((n % 10 : Nat) : Int) + 1) (by omega) (by omega), if_pos (by omega), if_pos (by omega), if_pos (by omega)]
    rw [show (((n % 10 : Nat) : Int)).toNat = n % 10 by omega, show (((n % 10 : Nat) : Int) + 1).toNat = n % 10 + 1 by omega]
    by_cases h9 : n > 9
    · rw [if_pos (by omega), ed, w64 (by omega) (by omega)]
      have hi := ih (n / 10) (by rw [Nat.pow_succ] at hn; omega) (by omega)
      simp only [r1_Dec.f] at hi
      rw [hi]
      simp only [ob]
      have hs : ((⟨#[48, 49, 50, 51, 52, 53, 54, 55, 56, 57]⟩ : ByteArray).extract (n % 10) (n % 10 + 1)).size = 1 := by rw [Lib.size_eq, e1]; rfl
      have hl := dec_len_le (n / 10) 18 (by omega) (by omega)
      rw [hs, if_pos (by rw [Lib.size_mk]; omega)]
      refine congrArg some (of_list _ _ ?_)
      have := dec_step (n / 10) (n % 10) (by omega) (by omega)
      rw [show 10 * (n / 10) + n % 10 = n by omega] at this
      rw [this]
      show _ = Lib.decDigits (n / 10) ++ _
      rw [← e1]
      simp
    · rw [if_neg (by omega)]
      refine congrArg some (of_list _ _ ?_)
      rw [e1, Lib.decDigits_one (by omega), show n % 10 = n by omega]
theorem dec_f (n : Int) (h1 : -100000000000000000 ≤ n) (h2 : n ≤ 100000000000000000) (k : Nat) (hk : 30 < k) : r1_Dec.f k n = some (S n) := by
  obtain ⟨k, rfl⟩ : ∃ m, k = m + 2 := ⟨k - 2, by omega⟩
  have hp : (10 : Nat) ^ 19 ≤ 10 ^ (k + 1) := Nat.pow_le_pow_right (by omega) (by omega)
  have h19 : (10 : Nat) ^ 19 = 10000000000000000000 := by decide
  by_cases h0 : n < 0
  · obtain ⟨m, rfl⟩ : ∃ m : Nat, n = -(m : Int) := ⟨n.natAbs, by omega⟩
    have := dec_go k m (by omega) (by omega)
    unfold r1_Dec.f
    rw [if_pos h0, Int.neg_neg, w64 (by omega) (by omega), this]
    simp only [ob]
    have hl := dec_len_le m 18 (by omega) (by omega)
    rw [if_pos (by rw [Lib.size_mk]; omega)]
    refine congrArg some (of_list _ _ ?_)
    rw [S_list, Lib.itoa_neg _ (by omega)]
    simp
  · obtain ⟨m, rfl⟩ : ∃ m : Nat, n = (m : Int) := ⟨n.toNat, by omega⟩
    have hp2 : (10 : Nat) ^ 19 ≤ 10 ^ (k + 1 + 1) := Nat.pow_le_pow_right (by omega) (by omega)
    have := dec_go (k + 1) m (by omega) (by omega)
    rw [this]
    refine congrArg some (of_list _ _ ?_)
    rw [S_list, Lib.itoa_nonneg]
end Go.Proofs.YthimiidnbnlemaaDoorD
