/- NumberValue: two short texts are one number just if they are worth the same: both are digits and an exponent, and what is read of these is one spelling of their worth. -/
import Derived.Test.YthimiidnbnlemaaGreatDoorNumberValuePNumV
import Derived.Test.YthimiidnbnlemaaGreatDoorNumberValuePx27
import Derived.Test.YthimiidnbnlemaaGreatDoorNumberValuePx26
import Derived.Test.YthimiidnbnlemaaGreatDoorNumberValuePx17
set_option linter.unusedVariables false
set_option linter.unusedSimpArgs false
namespace Go.Proofs.YthimiidnbnlemaaGreatDoor.Pure
open Go.RowKit Go.Proofs.YthimiidnbnlemaaGreatDoorX Go.Proofs.YthimiidnbnlemaaGreatDoorD Go.Proofs.YthimiidnbnlemaaGreatDoor.P Go.Proofs.YthimiidnbnlemaaGreatDoorW.PrintWords Go.Proofs.YthimiidnbnlemaaGreatDoorW.PrintLast Go.Proofs.YthimiidnbnlemaaGreatDoorW.PrintMore
theorem pad_go (i : Int) : ∀ (d k : Nat) (L : List UInt8), L.length + d = 7 → abridgerlaw5_text.l0 (k + d + 1) i (mk L) = abridgerlaw5_text.l0 (k + 1) i (mk (List.replicate d 48 ++ L))
  | 0, k, L, h => by simp
  | d + 1, k, L, h => by
    have e : abridgerlaw5_text.l0 (k + (d + 1) + 1) i (mk L) = abridgerlaw5_text.l0 (k + d + 1) i (mk (48 :: L)) := by
      rw [show k + (d + 1) + 1 = (k + d + 1) + 1 from by omega]
      conv => lhs; unfold abridgerlaw5_text.l0
      rw [mk_size, if_pos (by omega), if_pos (by omega), show (⟨#[48]⟩ : ByteArray) = mk [48] from rfl, mk_append]
      rfl
    rw [e, pad_go i d k (48 :: L) (by simp; omega)]
    rw [List.replicate_succ', List.append_assoc]
    rfl
theorem pad_end (i : Int) (h1 : -5 ≤ i) (h2 : i ≤ 5) (k : Nat) (hk : 40 < k) (L : List UInt8) (h : L.length = 7) :
    abridgerlaw5_text.l0 (k + 1) i (mk L) = some (mk (L.take 4 ++ 46 :: (L.drop 4 ++ 101 :: Lib.itoa (i + 3)))) := by
  unfold abridgerlaw5_text.l0
  have w1 : wrap64 (((7 : Nat) : Int) - 3) = 4 := w64 (x := ((7 : Nat) : Int) - 3) (by omega) (by omega)
  have w2 : wrap64 (i + 3) = i + 3 := w64 (by omega) (by omega)
  have hs : (mk L).size = 7 := by rw [mk_size, h]
  have z : (S (i + 3)).size ≤ 3 := S_len (i + 3) 2 (by omega) (by omega)
  have t4 : (L.take 4).length = 4 := by rw [List.length_take, h]; rfl
  have t3 : (L.drop 4).length = 3 := by rw [List.length_drop, h]
  have ed : (mk L).extract 4 7 = mk (L.drop 4) := by rw [← mk_drop, hs]
  rw [hs, if_neg (by omega), w1, if_pos (by omega), if_pos (by omega)]
  show (if ((mk L).extract 0 4).size + 1 ≤ _ then _ else _) = _
  rw [show (4 : Int).toNat = 4 from rfl, mk_take, ed, show (⟨#[46]⟩ : ByteArray) = mk [46] from rfl, show (⟨#[101]⟩ : ByteArray) = mk [101] from rfl]
  rw [mk_append, mk_append, mk_append, mk_size, if_pos (by omega), mk_size, mk_size, if_pos (by simp; omega), mk_size, if_pos (by simp; omega), w2, dec_f (i + 3) (by omega) (by omega) k (by omega), obi, mk_size, if_pos (by simp; omega), S_mk, mk_append]
  simp
theorem text_f (a : Nat) (ha : a ≤ 99999) (i : Int) (h1 : -5 ≤ i) (h2 : i ≤ 5) (p : Bool) (k : Nat) (hk : 100 < k) :
    ∃ D l, abridgerlaw5_text.f k (a : Int) i p = some (mk l) ∧ l.length ≤ 5000 ∧ D.all isDig = true ∧ val D = a ∧ readV l = (false, (normN D i).1, (normN D i).2, true) := by
  have hd := dec_dig a
  have hl : (Lib.decDigits a).length ≤ 5 := dec_len_le a 5 (by omega) (by omega)
  have hi : (Lib.itoa i).length ≤ 2 := itoa_len i 1 (by unfold Fits; omega) (by omega)
  have hi3 : (Lib.itoa (i + 3)).length ≤ 3 := itoa_len (i + 3) 2 (by unfold Fits; omega) (by omega)
  have ha' : S (a : Int) = mk (Lib.decDigits a) := by rw [S_mk, Lib.itoa_nonneg]
  unfold abridgerlaw5_text.f
  rw [dec_f (a : Int) (by omega) (by omega) k (by omega), obi, ha']
  cases p with
  | false =>
    rw [if_neg (by decide), mk_size, if_pos (by omega), dec_f i (by omega) (by omega) k (by omega), obi, show (⟨#[69]⟩ : ByteArray) = mk [69] from rfl, mk_append, S_mk, mk_size, mk_size, if_pos (by simp; omega), mk_append]
    refine ⟨Lib.decDigits a, _, rfl, by simp; omega, hd, dec_val a, ?_⟩
    rw [List.append_assoc]
    have := readV_of _ _ (readL_whole (Lib.decDigits a) hd (dec_ne a) 69 (Or.inr rfl) i)
    refine this.trans ?_
    dsimp only
    rw [List.append_nil, show i - (([] : List UInt8).length : Int) = i from by simp]
  | true =>
    rw [if_pos rfl]
    obtain ⟨n, hn⟩ : ∃ n, (Lib.decDigits a).length + n = 7 := ⟨7 - (Lib.decDigits a).length, by omega⟩
    obtain ⟨K, rfl⟩ : ∃ K, k = K + n + 1 := ⟨k - n - 1, by omega⟩
    have hL : (List.replicate n 48 ++ Lib.decDigits a).length = 7 := by simp; omega
    have hall : (List.replicate n 48 ++ Lib.decDigits a).all isDig = true := by
      rw [List.all_append, hd]
      have : (List.replicate n (48 : UInt8)).all isDig = true := by
        rw [List.all_eq_true]
        intro x hx
        rw [(List.mem_replicate.1 hx).2]; decide
      rw [this]; rfl
    have hv : val (List.replicate n 48 ++ Lib.decDigits a) = a := by rw [val_ahead, dec_val]
    rw [pad_go i n K _ (by omega), pad_end i h1 h2 K (by omega) _ hL]
    generalize hG : List.replicate n 48 ++ Lib.decDigits a = L at *
    have hc := List.take_append_drop 4 L
    have a1 : (L.take 4).all isDig = true ∧ (L.drop 4).all isDig = true := by
      rw [← hc, List.all_append, Bool.and_eq_true] at hall
      exact hall
    have t3 : (L.drop 4).length = 3 := by rw [List.length_drop, hL]
    refine ⟨L, _, rfl, ?_, hall, hv, ?_⟩
    · simp; omega
    have := readV_of _ _ (readL_point (L.take 4) (L.drop 4) a1.1 a1.2 (by intro e; rw [e] at t3; simp at t3) 101 (Or.inl rfl) (i + 3))
    refine this.trans ?_
    dsimp only
    rw [hc, t3, show i + 3 - ((3 : Nat) : Int) = i from by omega]
theorem mul_go0 (x2 x3 : Int) (x15 x17 : Bool) (x19 : Int) (y0 : Bool) (y1 y2 : ByteArray) (z0 : Bool) (z1 z2 : ByteArray) (h5 : x2 ≤ 5) : ∀ (d k u : Nat) (n : Int), n + d = x2 → -5 ≤ n → u * 10 ^ d ≤ 10000000000000000 →
    abridgerlaw5_NumberValue.l0 (k + d + 1) x2 x3 x15 x17 (u : Int) x19 n y0 y1 y2 z0 z1 z2 = abridgerlaw5_NumberValue.l1 k x3 x15 x17 ((u * 10 ^ d : Nat) : Int) x19 (-5) y0 y1 y2 z0 z1 z2
  | 0, k, u, n, h, hn, hb => by
    conv => lhs; unfold abridgerlaw5_NumberValue.l0
    rw [if_neg (by omega)]
    simp
  | d + 1, k, u, n, h, hn, hb => by
    have hp : u * 10 ^ (d + 1) = (10 * u) * 10 ^ d := by rw [Nat.pow_succ, Nat.mul_comm 10 u, Nat.mul_assoc, Nat.mul_comm 10]
    have h1 : 10 * u ≤ (10 * u) * 10 ^ d := Nat.le_mul_of_pos_right _ (Nat.pow_pos (by omega))
    rw [show k + (d + 1) + 1 = (k + d + 1) + 1 from by omega]
    conv => lhs; unfold abridgerlaw5_NumberValue.l0
    rw [if_pos (by omega), w64 (x := 10 * (u : Int)) (by omega) (by omega), w64 (x := n + 1) (by omega) (by omega), show 10 * (u : Int) = ((10 * u : Nat) : Int) from by omega, mul_go0 x2 x3 x15 x17 x19 y0 y1 y2 z0 z1 z2 h5 d k (10 * u) (n + 1) (by omega) (by omega) (by omega), hp]
theorem mul_go1 (x3 : Int) (x15 x17 : Bool) (x18 : Int) (y0 : Bool) (y1 y2 : ByteArray) (z0 : Bool) (z1 z2 : ByteArray) (h5 : x3 ≤ 5) : ∀ (d k u : Nat) (n : Int), n + d = x3 → -5 ≤ n → u * 10 ^ d ≤ 10000000000000000 →
    abridgerlaw5_NumberValue.l1 (k + d + 1) x3 x15 x17 x18 (u : Int) n y0 y1 y2 z0 z1 z2 = abridgerlaw5_NumberValue.l1 (k + 1) x3 x15 x17 x18 ((u * 10 ^ d : Nat) : Int) x3 y0 y1 y2 z0 z1 z2
  | 0, k, u, n, h, hn, hb => by
    rw [show n = x3 from by omega]
    simp
  | d + 1, k, u, n, h, hn, hb => by
    have hp : u * 10 ^ (d + 1) = (10 * u) * 10 ^ d := by rw [Nat.pow_succ, Nat.mul_comm 10 u, Nat.mul_assoc, Nat.mul_comm 10]
    have h1 : 10 * u ≤ (10 * u) * 10 ^ d := Nat.le_mul_of_pos_right _ (Nat.pow_pos (by omega))
    rw [show k + (d + 1) + 1 = (k + d + 1) + 1 from by omega]
    conv => lhs; unfold abridgerlaw5_NumberValue.l1
    rw [if_pos (by omega), w64 (x := 10 * (u : Int)) (by omega) (by omega), w64 (x := n + 1) (by omega) (by omega), show 10 * (u : Int) = ((10 * u : Nat) : Int) from by omega, mul_go1 x3 x15 x17 x18 y0 y1 y2 z0 z1 z2 h5 d k (10 * u) (n + 1) (by omega) (by omega) (by omega), hp]
theorem pow_le (a : Nat) (ha : a ≤ 99999) (j : Nat) (hj : j ≤ 10) : a * 10 ^ j ≤ 10000000000000000 := by
  have h1 : 10 ^ j ≤ 10 ^ 10 := Nat.pow_le_pow_right (by omega) hj
  have h2 : a * 10 ^ j ≤ 99999 * 10 ^ 10 := Nat.mul_le_mul ha h1
  omega
theorem value_core (K : Nat) (hK : 3000100 ≤ K) (a b : Nat) (ha : a ≤ 99999) (hb : b ≤ 99999) (i k : Int) (i1 : -5 ≤ i) (i2 : i ≤ 5) (k1 : -5 ≤ k) (k2 : k ≤ 5) (p q x : Bool) :
    abridgerlaw5_NumberValue.j0 (K + 1) (a : Int) (b : Int) i k p q x false = some true := by
  obtain ⟨D, l, e1, el, dD, vD, e2⟩ := text_f a ha i i1 i2 p K (by omega)
  obtain ⟨E, m, f1, fl, dE, vE, f2⟩ := text_f b hb k k1 k2 q K (by omega)
  rw [abridgerlaw5_NumberValue.j0]
  rw [if_neg (by decide), e1, obi, read_f l el K (by omega), obi, f1, obi, read_f m fl K (by omega), obi, e2, f2]
  dsimp only
  obtain ⟨n1, h1⟩ : ∃ n : Nat, (-5 : Int) + n = i := ⟨(i + 5).toNat, by omega⟩
  obtain ⟨n2, h2⟩ : ∃ n : Nat, (-5 : Int) + n = k := ⟨(k + 5).toNat, by omega⟩
  obtain ⟨K2, rfl⟩ : ∃ K2, K = (K2 + n2 + 1) + n1 + 1 := ⟨K - n1 - n2 - 2, by omega⟩
  rw [mul_go0 i k true true b false _ _ false _ _ i2 n1 (K2 + n2 + 1) a (-5) h1 (by omega) (pow_le a ha n1 (by omega)),
    mul_go1 k true true _ false _ _ false _ _ k2 n2 K2 b (-5) h2 (by omega) (pow_le b hb n2 (by omega))]
  unfold abridgerlaw5_NumberValue.l1
  rw [if_neg (by omega), if_pos rfl, if_pos rfl]
  refine congrArg some ?_
  have hq := norm_eq D E i k 5 dD dE (by omega) (by omega)
  rw [vD, vE, show (i + ((5 : Nat) : Int)).toNat = n1 from by omega, show (k + ((5 : Nat) : Int)).toNat = n2 from by omega] at hq
  have hl : ((false == false) && ((normN D i).1.toList == (normN E k).1.toList && ((normN D i).2.toList == (normN E k).2.toList))) = decide (normN D i = normN E k) := by
    rw [Bool.eq_iff_iff]
    simp only [Bool.and_eq_true, beq_iff_eq, decide_eq_true_eq, toList_inj, Prod.ext_iff]
    simp
  rw [hl]
  by_cases hv : a * 10 ^ n1 = b * 10 ^ n2
  · rw [decide_eq_true (hq.2 hv), hv]; simp
  · have hi : ((a * 10 ^ n1 : Nat) : Int) ≠ ((b * 10 ^ n2 : Nat) : Int) := fun h => hv (Int.ofNat.inj h)
    rw [decide_eq_false (fun h => hv (hq.1 h)), beq_eq_false_iff_ne.2 hi]
    rfl
theorem NumberValue : abridgerlaw5_NumberValue.Pure := by
  intro a b i k p q _ _ _ _
  obtain ⟨K, hK⟩ : ∃ K : Nat, 3000100 ≤ K := ⟨3000100, Nat.le_refl _⟩
  refine ⟨K + 1, ?_⟩
  unfold abridgerlaw5_NumberValue.f
  rw [alive5_f (K + 1) (by omega)]
  simp only [obi]
  rw [if_pos trivial]
  have hj : ∀ (a b i k : Int) (p q : Bool), abridgerlaw5_NumberValue.j0 (K + 1) a b i k p q true true = some true := by
    intro a b i k p q
    rw [abridgerlaw5_NumberValue.j0, if_pos rfl]
  by_cases h1 : a < 0
  · rw [if_pos h1, hj]
  rw [if_neg h1]
  by_cases h2 : a > 99999
  · rw [if_pos h2, hj]
  rw [if_neg h2]
  by_cases h3 : b < 0
  · rw [if_pos h3, hj]
  rw [if_neg h3]
  by_cases h4 : b > 99999
  · rw [if_pos h4, hj]
  rw [if_neg h4]
  by_cases h5 : i < -5
  · rw [if_pos h5, hj]
  rw [if_neg h5]
  by_cases h6 : i > 5
  · rw [if_pos h6, hj]
  rw [if_neg h6]
  by_cases h7 : k < -5
  · rw [if_pos h7, hj]
  rw [if_neg h7]
  by_cases h8 : k > 5
  · rw [decide_eq_true h8, hj]
  rw [decide_eq_false h8]
  obtain ⟨a, rfl⟩ := Int.eq_ofNat_of_zero_le (show 0 ≤ a by omega)
  obtain ⟨b, rfl⟩ := Int.eq_ofNat_of_zero_le (show 0 ≤ b by omega)
  exact value_core K hK a b (by omega) (by omega) i k (by omega) (by omega) (by omega) (by omega) p q true
end Go.Proofs.YthimiidnbnlemaaGreatDoor.Pure
