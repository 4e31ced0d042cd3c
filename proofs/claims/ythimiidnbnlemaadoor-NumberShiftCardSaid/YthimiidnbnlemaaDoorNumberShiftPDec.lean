/- PLAIN LAWS of rows of digits (lists of bytes): their value, their one spelling without noughts ahead, adding and taking off digit by digit. No program. -/
import Derived.Lib.ItoaMem
import Derived.Lib.AtoiAll
import Derived.Test.YthimiidnbnlemaaDoorNumberShiftExtDec
set_option linter.unusedVariables false
set_option linter.unusedSimpArgs false
namespace Go.Proofs.YthimiidnbnlemaaDoorD
open Go.Proofs.YthimiidnbnlemaaDoorX
def dv (c : UInt8) : Nat := c.toNat - 48
def val (l : List UInt8) : Nat := l.foldl (fun a c => 10 * a + dv c) 0
theorem val_nil : val [] = 0 := rfl
theorem val_snoc (l : List UInt8) (c : UInt8) : val (l ++ [c]) = 10 * val l + dv c := by simp [val]
def lsb : List UInt8 → Nat
  | [] => 0
  | c :: r => dv c + 10 * lsb r
theorem lsb_reverse (l : List UInt8) : lsb l.reverse = val l := by
  rw [← List.reverse_reverse l]
  generalize l.reverse = m
  rw [List.reverse_reverse]
  induction m with
  | nil => rfl
  | cons a r ih => rw [List.reverse_cons, val_snoc, ← ih, lsb]; omega
theorem isDig_iff (c : UInt8) : isDig c = true ↔ 48 ≤ c.toNat ∧ c.toNat ≤ 57 := by
  simp only [isDig, UInt8.le_iff_toNat_le, Bool.and_eq_true, decide_eq_true_eq]
  exact Iff.rfl
theorem isDig_of (d : Nat) (h : d < 10) : isDig (UInt8.ofNat (48 + d)) = true ∧ dv (UInt8.ofNat (48 + d)) = d := by
  have e : (UInt8.ofNat (48 + d)).toNat = 48 + d := by
    rw [UInt8.toNat_ofNat']; omega
  refine ⟨(isDig_iff _).2 (by omega), by unfold dv; omega⟩
theorem dig_eq (c : UInt8) (h : isDig c = true) : c = UInt8.ofNat (48 + dv c) := by
  have := (isDig_iff c).1 h
  apply UInt8.toNat_inj.1
  rw [UInt8.toNat_ofNat']
  unfold dv
  omega
theorem dv_lt (c : UInt8) (h : isDig c = true) : dv c < 10 := by
  have := (isDig_iff c).1 h
  unfold dv; omega
theorem dv_zero (c : UInt8) (h : isDig c = true) : dv c = 0 ↔ c = 48 := by
  have := (isDig_iff c).1 h
  constructor
  · intro e
    apply UInt8.toNat_inj.1
    unfold dv at e
    show c.toNat = 48
    omega
  · rintro rfl; rfl
open Lib in
theorem dec_step (n d : Nat) (hn : 0 < n) (hd : d < 10) : decDigits (10 * n + d) = decDigits n ++ [UInt8.ofNat (48 + d)] := by
  rw [decDigits, dif_neg (by omega)]
  congr 1
  · congr 1; omega
  · congr 3; omega
open Lib in
theorem dec_induct {P : Nat → Prop} (h0 : ∀ d, d < 10 → P d) (h1 : ∀ n d, 0 < n → d < 10 → P n → P (10 * n + d)) (n : Nat) : P n := by
  induction n using Nat.strongRecOn with
  | _ n ih =>
    by_cases h : n < 10
    · exact h0 n h
    · have := h1 (n / 10) (n % 10) (by omega) (by omega) (ih (n / 10) (by omega))
      rw [show 10 * (n / 10) + n % 10 = n by omega] at this
      exact this
open Lib in
theorem dec_zero : decDigits 0 = [48] := by rw [decDigits_one (by omega)]; rfl
open Lib in
theorem dec_dig (n : Nat) : (decDigits n).all isDig = true := by
  refine dec_induct (P := fun n => (decDigits n).all isDig = true) (fun d hd => ?_) (fun n d hn hd ih => ?_) n
  · rw [decDigits_one hd]; simp only [List.all_cons, List.all_nil, Bool.and_true, (isDig_of d hd).1]
  · rw [dec_step n d hn hd, List.all_append, ih]; simp only [List.all_cons, List.all_nil, Bool.and_true, (isDig_of d hd).1]
open Lib in
theorem dec_val (n : Nat) : val (decDigits n) = n := by
  refine dec_induct (P := fun n => val (decDigits n) = n) (fun d hd => ?_) (fun n d hn hd ih => ?_) n
  · rw [decDigits_one hd]; show 10 * 0 + dv _ = d; rw [(isDig_of d hd).2]; omega
  · rw [dec_step n d hn hd, val_snoc, ih, (isDig_of d hd).2]
open Lib in
theorem dec_ne (n : Nat) : decDigits n ≠ [] := by
  rw [decDigits]; split <;> simp
open Lib in
theorem dec_head (n : Nat) (h : 0 < n) : (decDigits n).head? ≠ some 48 := by
  revert h
  refine dec_induct (P := fun n => 0 < n → (decDigits n).head? ≠ some 48) (fun d hd hp => ?_) (fun n d hn hd ih hp => ?_) n
  · rw [decDigits_one hd]
    intro e
    have e2 : UInt8.ofNat (48 + d) = 48 := by simpa using e
    have := (isDig_of d hd).2
    rw [e2] at this
    have z : dv 48 = 0 := rfl
    omega
  · rw [dec_step n d hn hd]
    have := ih hn
    cases hx : decDigits n with
    | nil => exact absurd hx (dec_ne n)
    | cons a r => rw [hx] at this; simpa using this
theorem strip (l : List UInt8) (h : l.all isDig = true) : l.dropWhile (· == 48) = if val l = 0 then [] else Lib.decDigits (val l) := by
  rw [← List.reverse_reverse l] at h ⊢
  generalize l.reverse = m at *
  induction m with
  | nil => simp [val]
  | cons a r ih =>
    rw [List.reverse_cons] at h ⊢
    rw [List.all_append] at h
    simp only [Bool.and_eq_true, List.all_cons, List.all_nil, Bool.and_true] at h
    have ih := ih h.1
    have ha := dv_lt a h.2
    rw [val_snoc, List.dropWhile_append, ih]
    by_cases hz : val r.reverse = 0
    · rw [if_pos hz, hz]
      simp only [List.isEmpty_nil, if_true]
      by_cases ha0 : dv a = 0
      · rw [if_pos (by omega), (dv_zero a h.2).1 ha0]; simp
      · rw [if_neg (by omega)]
        have : a ≠ 48 := fun e => ha0 ((dv_zero a h.2).2 e)
        have hb : (a == 48) = false := by simpa using this
        rw [List.dropWhile_cons, hb]
        have e2 : 10 * 0 + dv a = dv a := by omega
        rw [e2, Lib.decDigits_one ha, ← dig_eq a h.2]
        simp
    · rw [if_neg hz]
      have hne := dec_ne (val r.reverse)
      rw [if_neg (by simpa using hne), if_neg (by omega), dec_step _ _ (by omega) ha, ← dig_eq a h.2]
theorem dec_unique (l : List UInt8) (h : l.all isDig = true) (hne : l ≠ []) (hh : l.head? ≠ some 48 ∨ l = [48]) : l = Lib.decDigits (val l) := by
  rcases hh with hh | rfl
  · have hs := strip l h
    cases l with
    | nil => exact absurd rfl hne
    | cons a r =>
      have hb : (a == 48) = false := by simp at hh; simpa using hh
      rw [List.dropWhile_cons, hb] at hs
      simp only [Bool.false_eq_true, if_false] at hs
      by_cases hz : val (a :: r) = 0
      · rw [if_pos hz] at hs; cases hs
      · rw [if_neg hz] at hs; exact hs
  · show [48] = Lib.decDigits 0
    rw [dec_zero]
theorem val_dec_inj {m n : Nat} (h : Lib.decDigits m = Lib.decDigits n) : m = n := by rw [← dec_val m, h, dec_val]
def toI (l : List UInt8) : Int := if (cutMinus l).2 = true then -((val (cutMinus l).1 : Nat) : Int) else ((val (cutMinus l).1 : Nat) : Int)
theorem rightL_spec (l : List UInt8) (h : rightL l = true) : (cutMinus l).1 = Lib.decDigits (val (cutMinus l).1) ∧ ((cutMinus l).2 = true → 0 < val (cutMinus l).1) := by
  unfold rightL at h
  simp only [Bool.and_eq_true, Bool.or_eq_true, bne_iff_ne, ne_eq, beq_iff_eq, Bool.not_eq_true', digitsL, Bool.not_eq_true', List.isEmpty_eq_false_iff] at h
  obtain ⟨⟨hne, hall⟩, hh⟩ := h
  have hu := dec_unique _ hall hne (hh.imp id (fun z => z.1))
  refine ⟨hu, fun hneg => ?_⟩
  rcases hh with hh | hh
  · apply Nat.pos_of_ne_zero
    intro hz
    rw [hz] at hu
    apply hh
    rw [hu, dec_zero]
    rfl
  · rw [hh.2] at hneg; cases hneg
theorem cutMinus_dec (n : Nat) : cutMinus (Lib.decDigits n) = (Lib.decDigits n, false) := by
  have h := dec_dig n
  unfold cutMinus
  split
  · rename_i r hr
    rw [hr] at h
    simp [isDig] at h
  · rfl
theorem right_itoa (l : List UInt8) (h : rightL l = true) : Lib.itoa (toI l) = l := by
  obtain ⟨h1, h2⟩ := rightL_spec l h
  unfold toI
  unfold cutMinus at *
  split at h1
  · rename_i r
    simp only [if_true] at *
    rw [Lib.itoa_neg _ (h2 trivial), ← h1]
  · simp only [Bool.false_eq_true, if_false] at *
    rw [Lib.itoa_nonneg, ← h1]
theorem itoa_right (n : Int) : rightL (Lib.itoa n) = true ∧ toI (Lib.itoa n) = n := by
  by_cases h : n < 0
  · obtain ⟨m, rfl⟩ : ∃ m : Nat, n = -(m : Int) := ⟨n.natAbs, by omega⟩
    have hm : 1 ≤ m := by omega
    rw [Lib.itoa_neg m hm]
    have hd := dec_dig m
    have hne := dec_ne m
    have hh := dec_head m (by omega)
    constructor
    · simp [rightL, cutMinus, digitsL, hd, hne, hh]
    · simp [toI, cutMinus, dec_val]
  · obtain ⟨m, rfl⟩ : ∃ m : Nat, n = (m : Int) := ⟨n.toNat, by omega⟩
    rw [Lib.itoa_nonneg]
    have hd := dec_dig m
    have hne := dec_ne m
    constructor
    · unfold rightL
      rw [cutMinus_dec]
      by_cases hz : m = 0
      · subst hz; rw [dec_zero]; rfl
      · have hh := dec_head m (by omega)
        simp [digitsL, hd, hne, hh]
    · unfold toI
      rw [cutMinus_dec]
      simp [dec_val]
def plusL : List UInt8 → List UInt8 → Nat → List Nat
  | [], [], c => if c > 0 then [1] else []
  | a :: x, [], c => (c + dv a) % 10 :: plusL x [] ((c + dv a) / 10)
  | [], b :: y, c => (c + dv b) % 10 :: plusL [] y ((c + dv b) / 10)
  | a :: x, b :: y, c => (c + dv a + dv b) % 10 :: plusL x y ((c + dv a + dv b) / 10)
def minusL : List UInt8 → List UInt8 → Nat → List Nat
  | [], _, _ => []
  | a :: x, [], c => if dv a < c then (dv a + 10 - c) :: minusL x [] 1 else (dv a - c) :: minusL x [] 0
  | a :: x, b :: y, c => if dv a < c + dv b then (dv a + 10 - c - dv b) :: minusL x y 1 else (dv a - c - dv b) :: minusL x y 0
def lsbN : List Nat → Nat
  | [] => 0
  | c :: r => c + 10 * lsbN r
theorem plusL_val : ∀ (x y : List UInt8) (c : Nat), c ≤ 1 → x.all isDig = true → y.all isDig = true → lsbN (plusL x y c) = lsb x + lsb y + c
  | [], [], c, hc, _, _ => by unfold plusL; split <;> simp [lsbN, lsb] <;> omega
  | a :: x, [], c, hc, hx, hy => by
    simp only [List.all_cons, Bool.and_eq_true] at hx
    have := dv_lt a hx.1
    unfold plusL
    rw [lsbN, plusL_val x [] _ (by omega) hx.2 hy]
    simp only [lsb]; omega
  | [], b :: y, c, hc, hx, hy => by
    simp only [List.all_cons, Bool.and_eq_true] at hy
    have := dv_lt b hy.1
    unfold plusL
    rw [lsbN, plusL_val [] y _ (by omega) hx hy.2]
    simp only [lsb]; omega
  | a :: x, b :: y, c, hc, hx, hy => by
    simp only [List.all_cons, Bool.and_eq_true] at hx hy
    have := dv_lt a hx.1
    have := dv_lt b hy.1
    unfold plusL
    rw [lsbN, plusL_val x y _ (by omega) hx.2 hy.2]
    simp only [lsb]; omega
theorem plusL_lt : ∀ (x y : List UInt8) (c : Nat), ∀ d ∈ plusL x y c, d < 10
  | [], [], c, d, hd => by unfold plusL at hd; split at hd <;> simp at hd; omega
  | a :: x, [], c, d, hd => by
    unfold plusL at hd
    rcases List.mem_cons.1 hd with rfl | hd
    · omega
    · exact plusL_lt _ _ _ d hd
  | [], b :: y, c, d, hd => by
    unfold plusL at hd
    rcases List.mem_cons.1 hd with rfl | hd
    · omega
    · exact plusL_lt _ _ _ d hd
  | a :: x, b :: y, c, d, hd => by
    unfold plusL at hd
    rcases List.mem_cons.1 hd with rfl | hd
    · omega
    · exact plusL_lt _ _ _ d hd
theorem minusL_val : ∀ (x y : List UInt8) (c : Nat), c ≤ 1 → x.all isDig = true → y.all isDig = true → lsb y + c ≤ lsb x → lsbN (minusL x y c) + lsb y + c = lsb x
  | [], y, c, hc, _, _, h => by
    have e : lsb ([] : List UInt8) = 0 := rfl
    rw [e] at h
    unfold minusL
    rw [e]
    show 0 + lsb y + c = 0
    omega
  | a :: x, [], c, hc, hx, hy, h => by
    simp only [List.all_cons, Bool.and_eq_true] at hx
    have := dv_lt a hx.1
    have e : lsb ([] : List UInt8) = 0 := rfl
    simp only [lsb] at h
    unfold minusL
    split
    · rw [lsbN]
      have ih := minusL_val x [] 1 (by omega) hx.2 hy (by rw [e]; omega)
      simp only [lsb] at *; omega
    · rw [lsbN]
      have ih := minusL_val x [] 0 (by omega) hx.2 hy (by rw [e]; omega)
      simp only [lsb] at *; omega
  | a :: x, b :: y, c, hc, hx, hy, h => by
    simp only [List.all_cons, Bool.and_eq_true] at hx hy
    have := dv_lt a hx.1
    have := dv_lt b hy.1
    simp only [lsb] at h
    unfold minusL
    split
    · rw [lsbN]
      have ih := minusL_val x y 1 (by omega) hx.2 hy.2 (by omega)
      simp only [lsb] at *; omega
    · rw [lsbN]
      have ih := minusL_val x y 0 (by omega) hx.2 hy.2 (by omega)
      simp only [lsb] at *; omega
theorem minusL_lt : ∀ (x y : List UInt8) (c : Nat), x.all isDig = true → ∀ d ∈ minusL x y c, d < 10
  | [], y, c, _, d, hd => by simp [minusL] at hd
  | a :: x, [], c, hx, d, hd => by
    simp only [List.all_cons, Bool.and_eq_true] at hx
    have := dv_lt a hx.1
    unfold minusL at hd
    split at hd
    all_goals
      rcases List.mem_cons.1 hd with rfl | hd
      · omega
      · exact minusL_lt _ _ _ hx.2 d hd
  | a :: x, b :: y, c, hx, d, hd => by
    simp only [List.all_cons, Bool.and_eq_true] at hx
    have := dv_lt a hx.1
    unfold minusL at hd
    split at hd
    all_goals
      rcases List.mem_cons.1 hd with rfl | hd
      · omega
      · exact minusL_lt _ _ _ hx.2 d hd
def textN (l : List Nat) : List UInt8 := (l.map fun d => UInt8.ofNat (48 + d)).reverse
theorem textN_dig (l : List Nat) (h : ∀ d ∈ l, d < 10) : (textN l).all isDig = true := by
  unfold textN
  rw [List.all_reverse, List.all_map, List.all_eq_true]
  intro d hd
  exact (isDig_of d (h d hd)).1
theorem textN_val (l : List Nat) (h : ∀ d ∈ l, d < 10) : val (textN l) = lsbN l := by
  unfold textN
  rw [← lsb_reverse, List.reverse_reverse]
  induction l with
  | nil => rfl
  | cons a r ih =>
    rw [List.map_cons, lsb, lsbN, (isDig_of a (h a (by simp))).2, ih (fun d hd => h d (by simp [hd]))]
theorem val_lt_pow (l : List UInt8) (h : l.all isDig = true) : val l < 10 ^ l.length := by
  rw [← List.reverse_reverse l] at h ⊢
  generalize l.reverse = m at *
  induction m with
  | nil => simp [val]
  | cons a r ih =>
    rw [List.reverse_cons] at h ⊢
    rw [List.all_append] at h
    simp only [Bool.and_eq_true, List.all_cons, List.all_nil, Bool.and_true] at h
    have := ih h.1
    have := dv_lt a h.2
    rw [val_snoc, List.length_append, List.length_singleton, Nat.pow_succ]
    omega
theorem val_cons (a : UInt8) (r : List UInt8) : val (a :: r) = dv a * 10 ^ r.length + val r := by
  rw [← List.reverse_reverse r]
  generalize r.reverse = m
  induction m with
  | nil => simp [val]
  | cons b s ih =>
    rw [List.reverse_cons, ← List.cons_append, val_snoc, val_snoc, ih, List.length_append, List.length_singleton, Nat.pow_succ]
    rw [← Nat.mul_assoc]
    omega
theorem compare_val : ∀ (x y : List UInt8), x.length = y.length → x.all isDig = true → y.all isDig = true →
    (Lib.compareBytes x y < 0 ↔ val x < val y) ∧ (Lib.compareBytes x y = 0 ↔ val x = val y)
  | [], [], _, _, _ => by simp [Lib.compareBytes]
  | a :: x, b :: y, hl, hx, hy => by
    simp only [List.all_cons, Bool.and_eq_true] at hx hy
    simp only [List.length_cons, Nat.add_right_cancel_iff] at hl
    have ih := compare_val x y hl hx.2 hy.2
    have h1 := val_lt_pow x hx.2
    have h2 := val_lt_pow y hy.2
    rw [val_cons, val_cons, hl]
    rw [hl] at h1
    have ha := (isDig_iff a).1 hx.1
    have hb := (isDig_iff b).1 hy.1
    generalize 10 ^ y.length = p at *
    unfold Lib.compareBytes
    by_cases hab : a < b
    · rw [if_pos hab]
      have hn : a.toNat < b.toNat := UInt8.lt_iff_toNat_lt.1 hab
      have hd : dv a + 1 ≤ dv b := by unfold dv; omega
      have : (dv a + 1) * p ≤ dv b * p := Nat.mul_le_mul_right _ hd
      rw [Nat.add_mul] at this
      constructor <;> constructor <;> intro _ <;> omega
    · rw [if_neg hab]
      by_cases hba : b < a
      · rw [if_pos hba]
        have hn : b.toNat < a.toNat := UInt8.lt_iff_toNat_lt.1 hba
        have hd : dv b + 1 ≤ dv a := by unfold dv; omega
        have : (dv b + 1) * p ≤ dv a * p := Nat.mul_le_mul_right _ hd
        rw [Nat.add_mul] at this
        constructor <;> constructor <;> intro _ <;> omega
      · rw [if_neg hba]
        have : a = b := by
          apply UInt8.toNat_inj.1
          have h3 : ¬ a.toNat < b.toNat := fun h => hab (UInt8.lt_iff_toNat_lt.2 h)
          have h4 : ¬ b.toNat < a.toNat := fun h => hba (UInt8.lt_iff_toNat_lt.2 h)
          omega
        subst this
        rw [ih.1, ih.2]
        constructor <;> constructor <;> intro _ <;> omega
theorem dec_len_lt {m n : Nat} (h : (Lib.decDigits m).length < (Lib.decDigits n).length) : m < n := by
  have h1 := val_lt_pow _ (dec_dig m)
  rw [dec_val] at h1
  by_cases hn : n = 0
  · subst hn
    rw [dec_zero] at h
    have := List.length_pos_iff.2 (dec_ne m)
    simp only [List.length_singleton] at h; omega
  · have hh := dec_head n (by omega)
    have hd := dec_dig n
    have hv := dec_val n
    cases hx : Lib.decDigits n with
    | nil => exact absurd hx (dec_ne n)
    | cons a r =>
      rw [hx] at hh hd hv h
      simp only [List.all_cons, Bool.and_eq_true] at hd
      rw [val_cons] at hv
      have ha : dv a ≠ 0 := fun e => hh (by rw [(dv_zero a hd.1).1 e]; rfl)
      have : 1 * 10 ^ r.length ≤ dv a * 10 ^ r.length := Nat.mul_le_mul_right _ (by omega)
      have : 10 ^ (Lib.decDigits m).length ≤ 10 ^ r.length := Nat.pow_le_pow_right (by omega) (by simp at h; omega)
      omega
end Go.Proofs.YthimiidnbnlemaaDoorD
