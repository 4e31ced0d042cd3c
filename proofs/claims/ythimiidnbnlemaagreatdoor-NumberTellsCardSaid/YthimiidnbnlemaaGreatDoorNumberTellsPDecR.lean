/- PLAIN LAWS of the reference's functions of chapter 4. -/
import Derived.Test.YthimiidnbnlemaaGreatDoorNumberTellsPDecI
import Derived.Test.YthimiidnbnlemaaGreatDoorNumberTellsPx14
import Derived.Test.YthimiidnbnlemaaGreatDoorNumberTellsPx13
set_option linter.unusedVariables false
set_option linter.unusedSimpArgs false
namespace Go.Proofs.YthimiidnbnlemaaGreatDoorD
open Go.RowKit Go.Proofs.YthimiidnbnlemaaGreatDoorX Go.Proofs.YthimiidnbnlemaaGreatDoor.P Go.Proofs.YthimiidnbnlemaaGreatDoorW.PrintWords Go.Proofs.YthimiidnbnlemaaGreatDoorW.PrintLast Go.Proofs.YthimiidnbnlemaaGreatDoorW.PrintMore
theorem rdigits_go (s : ByteArray) (hs : s.size ≤ 140737488355300) : ∀ (d k i : Nat), d < k → s.size < i + d → i ≤ s.size →
    r1_digits.l0 k s (i : Int) = some (!s.data.toList.isEmpty && (s.data.toList.drop i).all isDig) := by
  intro d
  induction d with
  | zero => intro k i hk hd hi; omega
  | succ d ih =>
    intro k i hk hd hi
    obtain ⟨k, rfl⟩ : ∃ m, k = m + 1 := ⟨k - 1, by omega⟩
    have hz := Lib.size_eq s
    simp only [r1_digits.l0]
    by_cases h : i < s.size
    · have hl : i < s.data.toList.length := by omega
      rw [if_pos (by omega), if_pos (by omega), bt_eq s i hl, List.drop_eq_getElem_cons hl, List.all_cons]
      have hne : s.data.toList.isEmpty = false := by
        cases hx : s.data.toList with
        | nil => rw [hx] at hl; simp at hl
        | cons a r => rfl
      rw [hne]
      generalize s.data.toList[i] = c at *
      cases hc : isDig c with
      | true =>
        have := (isDig_iff c).1 hc
        rw [if_neg (by omega), if_neg (by omega), w64 (by omega) (by omega)]
        have z := ih k (i + 1) (by omega) (by omega) (by omega)
        rw [hne] at z
        exact z
      | false =>
        have : ¬ (48 ≤ c.toNat ∧ c.toNat ≤ 57) := fun h => by rw [(isDig_iff c).2 h] at hc; cases hc
        by_cases h1 : ((c.toNat : Nat) : Int) < 48
        · rw [if_pos h1]; rfl
        · rw [if_neg h1, if_pos (by omega)]; rfl
    · rw [if_neg (by omega), Lib.toList_data, bne_nil_]
      rw [List.drop_eq_nil_of_le (by omega)]
      simp
theorem rdigits_f (s : ByteArray) (hs : s.size ≤ 140737488355300) (k : Nat) (hk : s.size + 1 < k) : r1_digits.f k s = some (digitsL s.data.toList) := by
  have := rdigits_go s hs (s.size + 1) k 0 (by omega) (by omega) (by omega)
  rw [List.drop_zero] at this
  exact this
theorem bt0 (s : ByteArray) (c : UInt8) (r : List UInt8) (h : s.data.toList = c :: r) : bt s 0 = (c.toNat : Int) := by
  have hl : 0 < s.data.toList.length := by rw [h]; simp
  rw [show (0 : Int) = ((0 : Nat) : Int) from rfl, bt_eq s 0 hl]
  have : s.data.toList[0]'hl = c := by
    have : s.data.toList[0]? = some c := by rw [h]; rfl
    rw [List.getElem?_eq_getElem hl] at this
    exact Option.some.inj this
  rw [this]
theorem tail_list (s : ByteArray) (c : UInt8) (r : List UInt8) (h : s.data.toList = c :: r) : (s.extract 1 s.size).data.toList = r := by
  have hz := Lib.size_eq s
  rw [Lib.extract_data, h]
  rw [h] at hz
  simp at hz
  simp
  rw [List.take_of_length_le (by omega)]
theorem toNat_ne {c d : UInt8} (h : c ≠ d) : ((c.toNat : Nat) : Int) ≠ ((d.toNat : Nat) : Int) := fun e => h (UInt8.toNat_inj.1 (by omega))
theorem some_bne (a b : UInt8) : (some a != some b) = (a != b) := by
  show (!(some a == some b)) = !(a == b)
  rw [Option.some_beq_some]
theorem right_f (s : ByteArray) (hs : s.size ≤ 140737488355300) (k : Nat) (hk : s.size + 5 < k) : r1_RightDecimal.f k s = some (rightL s.data.toList) := by
  have hz := Lib.size_eq s
  unfold r1_RightDecimal.f
  rw [Lib.toList_data]
  by_cases h0 : s.data.toList = [48]
  · rw [if_pos h0, h0]; rfl
  · rw [if_neg h0]
    cases hl : s.data.toList with
    | nil =>
      rw [hl] at hz
      have hz : s.size = 0 := hz
      rw [if_neg (by omega), rdigits_f s hs k (by omega), hl]
      rfl
    | cons c r =>
      rw [hl] at hz h0
      have hz' : s.size = r.length + 1 := hz
      rw [if_pos (by omega), if_pos (by omega), bt0 s c r hl]
      by_cases hc : c = 45
      · subst hc
        have ht := tail_list s 45 r hl
        have hx : (s.extract 1 s.size).size = r.length := by rw [Lib.size_eq, ht]
        rw [if_pos (by rfl), if_pos (by omega), rdigits_f _ (by omega) k (by omega), ht]
        simp only [Option.bind_some]
        have e : rightL (45 :: r) = (digitsL r && (r.head? != some 48 || (r == [48] && !true))) := rfl
        rw [e]
        cases hd : digitsL r with
        | false => simp
        | true =>
          cases r with
          | nil => simp [digitsL] at hd
          | cons a q =>
            rw [if_pos rfl, hx, if_pos (by simp), bt0 _ a q ht]
            have e2 : (((a.toNat : Nat) : Int) != 48) = (a != 48) := by
              by_cases ha : a = 48
              · subst ha; rfl
              · have := toNat_ne ha
                have e3 : (((48 : UInt8).toNat : Nat) : Int) = 48 := rfl
                rw [e3] at this
                rw [bne_iff_ne.2 this, bne_iff_ne.2 ha]
            rw [e2]
            simp [some_bne]
      · have hc' := toNat_ne hc
        have e3 : (((45 : UInt8).toNat : Nat) : Int) = 45 := rfl
        rw [e3] at hc'
        rw [if_neg hc', rdigits_f s hs k (by omega), hl]
        simp only [Option.bind_some]
        have ecut : cutMinus (c :: r) = (c :: r, false) := by
          unfold cutMinus
          split
          · rename_i h; injection h with h; exact absurd h hc
          · rfl
        have e : rightL (c :: r) = (digitsL (c :: r) && ((c :: r).head? != some 48 || ((c :: r) == [48] && !false))) := by unfold rightL; rw [ecut]
        rw [e]
        have e2 : (((c.toNat : Nat) : Int) != 48) = (c != 48) := by
          by_cases ha : c = 48
          · subst ha; rfl
          · have := toNat_ne ha
            have e3 : (((48 : UInt8).toNat : Nat) : Int) = 48 := rfl
            rw [e3] at this
            rw [bne_iff_ne.2 this, bne_iff_ne.2 ha]
        have e4 : ((c :: r) == [(48 : UInt8)]) = false := by simpa using h0
        rw [e2, e4]
        cases hd : digitsL (c :: r) <;> simp [some_bne]
theorem neg_S (n : Int) : (if n = 0 then S n else if n < 0 then (S n).extract 1 (S n).size else ((⟨#[45]⟩ : ByteArray) ++ S n)) = S (-n) := by
  by_cases h0 : n = 0
  · rw [if_pos h0, h0]; rfl
  · rw [if_neg h0]
    by_cases hn : n < 0
    · rw [if_pos hn]
      obtain ⟨m, rfl⟩ : ∃ m : Nat, n = -(m : Int) := ⟨n.natAbs, by omega⟩
      apply of_list
      rw [tail_list _ 45 (Lib.decDigits m) (by rw [S_list, Lib.itoa_neg _ (by omega)]), S_list, Int.neg_neg, Lib.itoa_nonneg]
    · rw [if_neg hn]
      obtain ⟨m, rfl⟩ : ∃ m : Nat, n = (m : Int) := ⟨n.toNat, by omega⟩
      apply of_list
      rw [S_list, Lib.itoa_neg _ (by omega)]
      show [45] ++ (S (m : Int)).data.toList = _
      rw [S_list, Lib.itoa_nonneg]
      rfl
end Go.Proofs.YthimiidnbnlemaaGreatDoorD
