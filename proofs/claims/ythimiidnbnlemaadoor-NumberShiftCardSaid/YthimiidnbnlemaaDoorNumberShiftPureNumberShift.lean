/- NumberShift: noughts behind, a point moved, and the number behind e the other way, are one number: what the four texts are worth is one, so what is read of them is. -/
import Derived.Test.YthimiidnbnlemaaDoorNumberShiftPNumB
import Derived.Test.YthimiidnbnlemaaDoorNumberShiftPDecQ
import Derived.Laws.BitsLemmas
import Derived.Test.YthimiidnbnlemaaDoorNumberShiftPx13
import Derived.Test.YthimiidnbnlemaaDoorNumberShiftPx2
import Derived.Test.YthimiidnbnlemaaDoorNumberShiftPx8
set_option linter.unusedVariables false
set_option linter.unusedSimpArgs false
namespace Go.Proofs.YthimiidnbnlemaaDoor.Pure
open Go.RowKit Go.Proofs.YthimiidnbnlemaaDoorX Go.Proofs.YthimiidnbnlemaaDoorD Go.Proofs.YthimiidnbnlemaaDoor.P Go.Proofs.YthimiidnbnlemaaDoorW.PrintWords Go.Proofs.YthimiidnbnlemaaDoorW.PrintLast Go.Proofs.YthimiidnbnlemaaDoorW.PrintMore
theorem and1023 (n : Int) : Go.bits .and .i64 n 1023 = n % 1024 := by
  have h : (BitVec.ofInt 64 1023).toNat = 2 ^ 10 - 1 := by decide
  have key : (BitVec.ofInt 64 n &&& BitVec.ofInt 64 1023).toNat = (n % ((2 ^ 64 : Nat) : Int)).toNat % 2 ^ 10 := by
    rw [BitVec.toNat_and, BitVec.toNat_ofInt, h, Nat.and_two_pow_sub_one_eq_mod]
  show IntKind.i64.wrap ((BitVec.ofInt 64 n &&& BitVec.ofInt 64 1023).toNat : Nat) = n % 1024
  rw [key, IntKind.wrap_i64]
  omega
theorem digit_of (x : Int) : ∃ d : Nat, d < 10 ∧ Int.tmod (Go.bits .and .i64 x 1023) 10 = (d : Int) := by
  rw [and1023]
  obtain ⟨n, hn⟩ := Int.eq_ofNat_of_zero_le (show 0 ≤ x % 1024 by omega)
  exact ⟨n % 10, by omega, by rw [hn]; exact (Int.ofNat_tmod n 10).symm⟩
def Z30 : ByteArray := ⟨#[48, 48, 48, 48, 48, 48, 48, 48, 48, 48, 48, 48, 48, 48, 48, 48, 48, 48, 48, 48, 48, 48, 48, 48, 48, 48, 48, 48, 48, 48]⟩
theorem z30_take (n : Nat) (h : n ≤ 30) : Z30.extract 0 n = mk (List.replicate n 48) := by
  have e : Z30 = mk (List.replicate 30 48) := rfl
  rw [e, mk_take, List.take_replicate, Nat.min_eq_left h]
theorem read_shift (k : Nat) (hk : 2000000 < k) (g : Bool) (x : List UInt8) (p : Pieces) (hx : x.length ≤ 4000) (h : bodyL g x = some p) (hg : p.neg = g) (hc : ∃ c r, x = c :: r ∧ (isDig c = true ∨ c = 46)) (N : ByteArray × ByteArray) (hN : normN (p.whole ++ p.part) (p.exp - (p.part.length : Int)) = N) :
    number_Read.f k (mk (signM g ++ x)) = some (g, N.1, N.2, true) := by
  rw [read_f _ (by rw [List.length_append]; have := signM_len g; omega) k hk, signM_app, read_of g x p h hg hc, hN]
theorem j2_shift (s : List UInt8) (hs : s.all isDig = true) (hne : s ≠ []) (hl : s.length ≤ 40) (E M : Int) (hE1 : -1000 ≤ E) (hE2 : E ≤ 1000) (hM1 : 0 ≤ M) (hM2 : M ≤ 30) (g : Bool) (k : Nat) (hk : 2000010 < k) :
    l5_NumberShift.j2 k E M g (mk s) (mk (signM g)) = some true := by
  obtain ⟨k, rfl⟩ : ∃ m, k = m + 1 := ⟨k - 1, by omega⟩
  obtain ⟨n, rfl⟩ := Int.eq_ofNat_of_zero_le hM1
  have hn : n ≤ 30 := by omega
  have hm := signM_len g
  have hp : 0 < s.length := List.length_pos_iff.2 hne
  have z101 : (⟨#[101]⟩ : ByteArray) = mk [101] := rfl
  have z69 : (⟨#[69]⟩ : ByteArray) = mk [69] := rfl
  have z46 : (⟨#[46]⟩ : ByteArray) = mk [46] := rfl
  have z00 : (⟨#[48, 48]⟩ : ByteArray) = mk [48, 48] := rfl
  have z0e : (⟨#[48, 101]⟩ : ByteArray) = mk [48, 101] := rfl
  have zz : (⟨#[48, 48, 48, 48, 48, 48, 48, 48, 48, 48, 48, 48, 48, 48, 48, 48, 48, 48, 48, 48, 48, 48, 48, 48, 48, 48, 48, 48, 48, 48]⟩ : ByteArray) = Z30 := rfl
  have small : ∀ x : Int, -3000 ≤ x → x ≤ 3000 → (Lib.itoa x).length ≤ 5 := fun x h1 h2 => by
    have := S_len x 4 (by omega) (by omega)
    rw [S_size] at this
    omega
  rw [l5_NumberShift.j2, z101, z69, z46, z00, z0e, zz, show ((n : Int)).toNat = n from rfl, z30_take n hn]
  have R := rep_dig n
  have lR : (List.replicate n (48 : UInt8)).length = n := List.length_replicate
  generalize hZ : List.replicate n (48 : UInt8) = Z at R lR ⊢
  rw [if_pos (by omega), if_pos (by omega), mk_append, mk_append, mk_append, mk_append, mk_append, mk_append, mk_append, mk_append, mk_append, mk_append, mk_append, mk_append, mk_append]
  have hd1 := small E (by omega) (by omega)
  have hd2 := small (E - n) (by omega) (by omega)
  have hd3 := small (E + n + s.length) (by omega) (by omega)
  generalize hSg : signM g = G at hm ⊢
  -- the four texts
  obtain ⟨N, hN⟩ : ∃ N, normN s E = N := ⟨_, rfl⟩
  have ne1 : ∀ w : List UInt8, s ++ w ≠ [] := fun w h => hne (List.append_eq_nil_iff.1 h).1
  have va : val (s ++ Z) = val s * 10 ^ n := by rw [← hZ, val_noughts]
  have vb : val (Z ++ s) = val s := by rw [← hZ, val_ahead]
  have r1 : number_Read.f k (mk (G ++ (s ++ 101 :: Lib.itoa E))) = some (g, N.1, N.2, true) := by
    have hb := body_whole g s (101 :: Lib.itoa E) hs (stop_e E) (fun r h => by injection h with h _; exact absurd h (by decide))
    rw [restL_e g s [] E (by rw [List.append_nil]; exact hne)] at hb
    rw [← hSg]
    refine read_shift k (by omega) g _ _ (by simp; omega) hb rfl (head_app _ _ (head_dig s hs hne)) N ?_
    dsimp only
    rw [List.append_nil, ← hN]
    congr 1
    simp
  have r2 : number_Read.f k (mk (G ++ (s ++ Z ++ 69 :: Lib.itoa (E - n)))) = some (g, N.1, N.2, true) := by
    have hsz : (s ++ Z).all isDig = true := by rw [List.all_append, hs, R]; rfl
    have hb := body_whole g (s ++ Z) (69 :: Lib.itoa (E - n)) hsz (fun c r h => by injection h with h _; rw [← h]; decide) (fun r h => by injection h with h _; exact absurd h (by decide))
    rw [restL_c g (s ++ Z) [] 69 (Or.inr rfl) (E - n) (by rw [List.append_nil]; exact ne1 Z)] at hb
    rw [← hSg]
    refine read_shift k (by omega) g _ _ (by simp; omega) hb rfl (head_app _ _ (head_dig _ hsz (ne1 Z))) N ?_
    dsimp only
    rw [List.append_nil, ← hN, norm_eq _ _ _ _ 2000 hsz hs (by simp; omega) (by omega), va, Nat.mul_assoc, ← Nat.pow_add]
    congr 2
    simp
    omega
  have r3 : number_Read.f k (mk (G ++ ([48, 48] ++ s ++ 46 :: (Z ++ [48] ++ 101 :: Lib.itoa E)))) = some (g, N.1, N.2, true) := by
    have h0s : ([48, 48] ++ s).all isDig = true := by rw [List.all_append, hs]; rfl
    have hz0 : (Z ++ [48]).all isDig = true := by rw [List.all_append, R]; rfl
    have hb := body_part g ([48, 48] ++ s) (Z ++ [48]) (101 :: Lib.itoa E) h0s hz0 (by simp) (stop_e E)
    rw [restL_e g _ _ E (by simp)] at hb
    rw [← hSg]
    refine read_shift k (by omega) g _ _ (by simp; omega) hb rfl ⟨48, _, rfl, Or.inl (by decide)⟩ N ?_
    dsimp only
    have hall : ([48, 48] ++ s ++ (Z ++ [48])).all isDig = true := by rw [List.all_append, h0s, hz0]; rfl
    have hv : val ([48, 48] ++ s ++ (Z ++ [48])) = val s * 10 ^ (n + 1) := by
      have e1 : [48, 48] ++ s ++ (Z ++ [48]) = List.replicate 2 48 ++ (s ++ List.replicate (n + 1) 48) := by
        have e2 : List.replicate (n + 1) (48 : UInt8) = List.replicate n 48 ++ [48] := List.replicate_succ'
        rw [e2, ← hZ]
        simp
      rw [e1, val_ahead, val_noughts]
    rw [← hN, norm_eq _ _ _ _ 2000 hall hs (by simp; omega) (by omega), hv, Nat.mul_assoc, ← Nat.pow_add]
    congr 2
    simp
    omega
  have r4 : number_Read.f k (mk (G ++ (46 :: (Z ++ s ++ 101 :: Lib.itoa (E + n + s.length))))) = some (g, N.1, N.2, true) := by
    have hzs : (Z ++ s).all isDig = true := by rw [List.all_append, hs, R]; rfl
    have hne2 : Z ++ s ≠ [] := fun h => hne (List.append_eq_nil_iff.1 h).2
    have hb := body_part g [] (Z ++ s) (101 :: Lib.itoa (E + n + s.length)) rfl hzs hne2 (stop_e _)
    rw [restL_e g _ _ _ (by rw [List.nil_append]; exact hne2)] at hb
    rw [← hSg]
    refine read_shift k (by omega) g _ _ (by simp; omega) hb rfl ⟨46, _, rfl, Or.inr rfl⟩ N ?_
    dsimp only
    rw [List.nil_append, ← hN, norm_eq _ _ _ _ 2000 hzs hs (by simp; omega) (by omega), vb]
    congr 2
    simp
    omega
  -- along the text
  have w1 : wrap64 (E - (n : Int)) = E - n := w64 (by omega) (by omega)
  have w2 : wrap64 (wrap64 (E + (n : Int)) + ((mk s).size : Int)) = E + n + s.length := by rw [w64 (x := E + (n : Int)) (by omega) (by omega), mk_size]; exact w64 (by omega) (by omega)
  have dec : ∀ x : Int, -3000 ≤ x → x ≤ 3000 → r1_Dec.f k x = some (S x) := fun x h1 h2 => dec_f x (by omega) (by omega) k (by omega)
  have sz : ∀ l : List UInt8, l.length ≤ 1000 → ∀ m : Nat, m ≤ 1000 → (mk l).size + m ≤ 9223372036854775807 := fun l h m h2 => by rw [mk_size]; omega
  have ms : ∀ l : List UInt8, l.length ≤ 1000 → (mk l).size ≤ 1000 := fun l h => by rw [mk_size]; exact h
  have ss : ∀ x : Int, (S x).size = (Lib.itoa x).length := fun x => S_size x
  rw [w1, w2, dec E (by omega) (by omega), dec (E - n) (by omega) (by omega), dec (E + n + s.length) (by omega) (by omega)]
  have lG := hm
  simp only [obi]
  rw [if_pos (sz _ (by omega) _ (ms _ (by omega))), if_pos (sz _ (by simp; omega) _ (by omega)), if_pos (sz _ (by simp; omega) _ (by rw [ss]; omega))]
  rw [S_mk, S_mk, S_mk, mk_append, mk_append, mk_append, mk_append]
  rw [show G ++ s ++ [101] ++ Lib.itoa E = G ++ (s ++ 101 :: Lib.itoa E) by simp, r1, obi]
  rw [if_pos (sz _ (by simp; omega) _ (ms _ (by omega))), if_pos (sz _ (by simp; omega) _ (by omega)), if_pos (sz _ (by simp; omega) _ (ms _ (by omega)))]
  rw [show G ++ s ++ Z ++ [69] ++ Lib.itoa (E - n) = G ++ (s ++ Z ++ 69 :: Lib.itoa (E - n)) by simp, r2, obi]
  rw [if_pos (sz _ (by omega) _ (by omega)), if_pos (sz _ (by simp; omega) _ (ms _ (by omega))), if_pos (sz _ (by simp; omega) _ (by omega)), if_pos (sz _ (by simp; omega) _ (ms _ (by omega))), if_pos (sz _ (by simp; omega) _ (by omega)), if_pos (sz _ (by simp; omega) _ (ms _ (by omega)))]
  rw [show G ++ [48, 48] ++ s ++ [46] ++ Z ++ [48, 101] ++ Lib.itoa E = G ++ ([48, 48] ++ s ++ 46 :: (Z ++ [48] ++ 101 :: Lib.itoa E)) by simp, r3, obi]
  rw [if_pos (sz _ (by omega) _ (by omega)), if_pos (sz _ (by simp; omega) _ (ms _ (by omega))), if_pos (sz _ (by simp; omega) _ (ms _ (by omega))), if_pos (sz _ (by simp; omega) _ (by omega)), if_pos (sz _ (by simp; omega) _ (ms _ (by omega)))]
  rw [show G ++ [46] ++ Z ++ s ++ [101] ++ Lib.itoa (E + n + s.length) = G ++ (46 :: (Z ++ s ++ 101 :: Lib.itoa (E + n + s.length))) by simp, r4, obi]
  simp
theorem shift_go (xs : List Int) (hx : xs.length ≤ 40) (h1 : 1 ≤ xs.length) (E M : Int) (hE1 : -1000 ≤ E) (hE2 : E ≤ 1000) (hM1 : 0 ≤ M) (hM2 : M ≤ 30) (g : Bool) : ∀ (d k i : Nat) (s : List UInt8), d + 2000020 < k → xs.length < i + d → i ≤ xs.length → s.all isDig = true → s.length = i →
    l5_NumberShift.l0 k xs E M g (mk s) (i : Int) = some true := by
  intro d
  induction d with
  | zero => intro k i s hk hd hi; omega
  | succ d ih =>
    intro k i s hk hd hi hs hl
    obtain ⟨k, rfl⟩ : ∃ m, k = m + 1 := ⟨k - 1, by omega⟩
    rw [l5_NumberShift.l0]
    by_cases h : i < xs.length
    · obtain ⟨n, hn, e⟩ := digit_of (rd xs (i : Int))
      rw [e, if_pos (by omega), if_pos (by omega), if_pos (by omega), w64 (x := (n : Int) + 1) (by omega) (by omega), if_pos (by omega), if_pos (by omega)]
      have ed : (⟨#[48, 49, 50, 51, 52, 53, 54, 55, 56, 57]⟩ : ByteArray).extract (n : Int).toNat ((n : Int) + 1).toNat = mk [UInt8.ofNat (48 + n)] := by
        rw [show ((n : Int)).toNat = n from rfl, show ((n : Int) + 1).toNat = n + 1 by omega]
        have := dec_one n hn
        rw [← mk_eta (ByteArray.extract _ _ _), this]
        rfl
      rw [ed, mk_size, mk_size, if_pos (by simp; omega), mk_append, w64 (by omega) (by omega)]
      exact ih k (i + 1) _ (by omega) (by omega) (by omega) (by rw [List.all_append, hs]; simp only [List.all_cons, List.all_nil, (isDig_of n hn).1]; rfl) (by simp; omega)
    · rw [if_neg (by omega)]
      have hne : s ≠ [] := by intro e; rw [e] at hl; simp at hl; omega
      have := fun g => j2_shift s hs hne (by omega) E M hE1 hE2 hM1 hM2 g k (by omega)
      cases g with
      | true => rw [if_pos rfl]; exact this true
      | false => rw [if_neg (by decide)]; exact this false
theorem NumberShift : l5_NumberShift.Pure := by
  intro l E M g h1 h2 h3 h4 h5
  refine ⟨3100000 + 1, ?_⟩
  unfold l5_NumberShift.f
  rw [alive5_f _ (by omega), obi, if_pos rfl]
  have hj : l5_NumberShift.j0 (3100000 + 1) l E M g true true = some true := by
    rw [l5_NumberShift.j0, if_pos rfl]
  by_cases c1 : (l.length : Int) < 1
  · rw [if_pos c1, hj]
  rw [if_neg c1]
  by_cases c2 : (l.length : Int) > 40
  · rw [if_pos c2, hj]
  rw [if_neg c2]
  by_cases c3 : E < -1000
  · rw [if_pos c3, hj]
  rw [if_neg c3]
  by_cases c4 : E > 1000
  · rw [if_pos c4, hj]
  rw [if_neg c4]
  by_cases c5 : M < 0
  · rw [if_pos c5, hj]
  rw [if_neg c5]
  by_cases c6 : M > 30
  · rw [decide_eq_true c6, hj]
  rw [decide_eq_false c6, l5_NumberShift.j0, if_neg (by decide)]
  exact shift_go l (by omega) (by omega) E M (by omega) (by omega) (by omega) (by omega) g (l.length + 1) 3100000 0 [] (by omega) (by omega) (by omega) rfl rfl
end Go.Proofs.YthimiidnbnlemaaDoor.Pure
