/- PLAIN LAWS of number: two numbers that are read are one just if they are worth the same. -/
import Derived.Test.YthimiidnbnlemaaDoorNumberShiftPNumA
set_option linter.unusedVariables false
set_option linter.unusedSimpArgs false
namespace Go.Proofs.YthimiidnbnlemaaDoorD
open Go.RowKit Go.Proofs.YthimiidnbnlemaaDoorX Go.Proofs.YthimiidnbnlemaaDoor.P Go.Proofs.YthimiidnbnlemaaDoorW.PrintWords Go.Proofs.YthimiidnbnlemaaDoorW.PrintLast Go.Proofs.YthimiidnbnlemaaDoorW.PrintMore
def normN (d : List UInt8) (x : Int) : ByteArray × ByteArray :=
  if d.dropWhile (· == 48) = [] then (mk [], mk []) else
    (mk (((d.dropWhile (· == 48)).reverse.dropWhile (· == 48)).reverse), S (x + (((d.dropWhile (· == 48)).length : Int) - (((d.dropWhile (· == 48)).reverse.dropWhile (· == 48)).reverse.length : Int))))
theorem numP_norm (p : Pieces) : numP p = (p.neg, normN (p.whole ++ p.part) (p.exp - (p.part.length : Int))) := by
  unfold numP normN
  dsimp only
  split
  · rfl
  · refine Prod.ext rfl (Prod.ext rfl ?_)
    show S _ = S _
    congr 1
    omega
theorem val_noughts (s : List UInt8) (n : Nat) : val (s ++ List.replicate n 48) = val s * 10 ^ n := by
  induction n with
  | zero => simp
  | succ n ih =>
    rw [List.replicate_succ', ← List.append_assoc, val_snoc, ih]
    have : dv 48 = 0 := rfl
    have e : val s * 10 ^ (n + 1) = (val s * 10 ^ n) * 10 := by rw [Nat.pow_succ, ← Nat.mul_assoc]
    rw [e]
    omega
theorem val_ahead (n : Nat) (s : List UInt8) : val (List.replicate n 48 ++ s) = val s := by
  induction n with
  | zero => simp
  | succ n ih =>
    rw [List.replicate_succ, List.cons_append, val_cons, ih]
    have : dv 48 = 0 := rfl
    rw [this]; omega
theorem drop_head {p : UInt8 → Bool} : ∀ (l : List UInt8) (c : UInt8) (r : List UInt8), l.dropWhile p = c :: r → p c = false
  | [], c, r, h => by simp at h
  | a :: l, c, r, h => by
    rw [List.dropWhile_cons] at h
    split at h
    · exact drop_head l c r h
    · rename_i hp
      injection h with h1 h2
      rw [← h1]
      simpa using hp
theorem trim_eq (e : List UInt8) : ∃ n, e = (e.reverse.dropWhile (· == 48)).reverse ++ List.replicate n 48 := by
  have h := List.takeWhile_append_dropWhile (p := fun c : UInt8 => c == 48) (l := e.reverse)
  obtain ⟨n, h2⟩ : ∃ n, e.reverse.takeWhile (fun c : UInt8 => c == 48) = List.replicate n 48 := by
    refine ⟨_, List.eq_replicate_iff.2 ⟨rfl, fun x hx => ?_⟩⟩
    have : ∀ (l : List UInt8), x ∈ l.takeWhile (fun c : UInt8 => c == 48) → x = 48 := by
      intro l
      induction l with
      | nil => simp
      | cons a l ih =>
        rw [List.takeWhile_cons]
        split
        · rename_i ha
          intro hm
          cases hm with
          | head => simpa using ha
          | tail _ hm => exact ih hm
        · intro hm; cases hm
    exact this _ hx
  refine ⟨n, ?_⟩
  rw [h2] at h
  have h3 := congrArg List.reverse h
  rw [List.reverse_append, List.reverse_reverse, List.reverse_replicate] at h3
  exact h3.symm
theorem trim_last (e t : List UInt8) (c : UInt8) (h : (e.reverse.dropWhile (· == 48)).reverse = t ++ [c]) : c ≠ 48 := by
  have h2 := congrArg List.reverse h
  rw [List.reverse_reverse, List.reverse_append] at h2
  have := drop_head _ _ _ h2
  simpa using this
theorem norm_spec (D : List UInt8) (x : Int) (h : D.all isDig = true) :
    (val D = 0 ∧ normN D x = (mk [], mk [])) ∨ ∃ m n : Nat, m % 10 ≠ 0 ∧ val D = m * 10 ^ n ∧ normN D x = (mk (Lib.decDigits m), S (x + n)) := by
  have hs := strip D h
  by_cases h0 : val D = 0
  · refine Or.inl ⟨h0, ?_⟩
    unfold normN
    rw [hs, if_pos h0, if_pos rfl]
  refine Or.inr ?_
  rw [if_neg h0] at hs
  obtain ⟨n, hn⟩ := trim_eq (Lib.decDigits (val D))
  generalize hS : ((Lib.decDigits (val D)).reverse.dropWhile (· == 48)).reverse = s at hn
  have hall : (Lib.decDigits (val D)).all isDig = true := dec_dig _
  have hv : val D = val s * 10 ^ n := by rw [← val_noughts, ← hn, dec_val]
  have hsd : s.all isDig = true := by
    rw [hn, List.all_append] at hall
    simp only [Bool.and_eq_true] at hall
    exact hall.1
  have hne : s ≠ [] := by
    intro e
    rw [e, val_nil] at hv
    omega
  obtain ⟨t, c, ht⟩ : ∃ t c, s = t ++ [c] := ⟨s.dropLast, s.getLast hne, (List.dropLast_concat_getLast hne).symm⟩
  have hc : c ≠ 48 := trim_last _ t c (by rw [hS, ht])
  have hcd : isDig c = true := by
    rw [ht, List.all_append] at hsd
    simp at hsd
    exact hsd.2
  have hh : s.head? ≠ some 48 := by
    have := dec_head (val D) (by omega)
    rw [hn] at this
    cases s with
    | nil => exact absurd rfl hne
    | cons a r => simpa using this
  refine ⟨val s, n, ?_, hv, ?_⟩
  · rw [ht, val_snoc]
    have := dv_lt c hcd
    have h1 : dv c ≠ 0 := fun e => hc ((dv_zero c hcd).1 e)
    omega
  · unfold normN
    rw [hs, if_neg (dec_ne _), hS, ← dec_unique s hsd hne (Or.inl hh)]
    have hl : (Lib.decDigits (val D)).length = s.length + n := by
      have := congrArg List.length hn
      rw [List.length_append, List.length_replicate] at this
      exact this
    rw [hl]
    refine Prod.ext rfl ?_
    show S _ = S _
    congr 1
    omega
theorem ten_eq (m1 m2 : Nat) (h1 : m1 % 10 ≠ 0) (h2 : m2 % 10 ≠ 0) : ∀ a b, m1 * 10 ^ a = m2 * 10 ^ b → a = b ∧ m1 = m2
  | 0, 0, h => by simp at h; exact ⟨rfl, h⟩
  | 0, b + 1, h => by rw [Nat.pow_succ, ← Nat.mul_assoc] at h; simp at h; omega
  | a + 1, 0, h => by rw [Nat.pow_succ, ← Nat.mul_assoc] at h; simp at h; omega
  | a + 1, b + 1, h => by
    rw [Nat.pow_succ, ← Nat.mul_assoc, Nat.pow_succ, ← Nat.mul_assoc] at h
    have := ten_eq m1 m2 h1 h2 a b (by omega)
    exact ⟨by omega, this.2⟩
theorem mk_inj {a b : List UInt8} (h : mk a = mk b) : a = b := by
  have := congrArg (fun s : ByteArray => s.data.toList) h
  rwa [mk_list, mk_list] at this
theorem norm_eq (D E : List UInt8) (x y : Int) (c : Nat) (hD : D.all isDig = true) (hE : E.all isDig = true) (hx : 0 ≤ x + c) (hy : 0 ≤ y + c) :
    normN D x = normN E y ↔ val D * 10 ^ (x + c).toNat = val E * 10 ^ (y + c).toNat := by
  have pos : ∀ (m n j : Nat), m % 10 ≠ 0 → 0 < m * 10 ^ n * 10 ^ j := fun m n j h => Nat.mul_pos (Nat.mul_pos (by omega) (Nat.pow_pos (by omega))) (Nat.pow_pos (by omega))
  rcases norm_spec D x hD with ⟨d0, dn⟩ | ⟨m, n, hm, dv, dn⟩ <;> rcases norm_spec E y hE with ⟨e0, en⟩ | ⟨m', n', hm', ev, en⟩
  · rw [dn, en, d0, e0]; simp
  · rw [dn, en, d0, ev]
    refine ⟨fun h => ?_, fun h => ?_⟩
    · exact absurd (mk_inj (Prod.ext_iff.1 h).1).symm (dec_ne _)
    · have := pos m' n' (y + c).toNat hm'; omega
  · rw [dn, en, e0, dv]
    refine ⟨fun h => ?_, fun h => ?_⟩
    · exact absurd (mk_inj (Prod.ext_iff.1 h).1) (dec_ne _)
    · have := pos m n (x + c).toNat hm; omega
  · rw [dn, en, dv, ev, Nat.mul_assoc, Nat.mul_assoc, ← Nat.pow_add, ← Nat.pow_add]
    refine ⟨fun h => ?_, fun h => ?_⟩
    · have h1 : m = m' := val_dec_inj (mk_inj (Prod.ext_iff.1 h).1)
      have h2 : x + n = y + n' := S_inj (Prod.ext_iff.1 h).2
      rw [h1, show n + (x + c).toNat = n' + (y + c).toNat from by omega]
    · obtain ⟨h1, h2⟩ := ten_eq m m' hm hm' _ _ h
      rw [h2, show x + (n : Int) = y + n' from by omega]
theorem run_stop (d t : List UInt8) (h : d.all isDig = true) (ht : ∀ c r, t = c :: r → isDig c = false) : runL (d ++ t) = (d, t) := by
  unfold runL
  induction d with
  | nil =>
    cases t with
    | nil => rfl
    | cons c r => simp [ht c r rfl]
  | cons a d ih =>
    simp only [List.all_cons, Bool.and_eq_true] at h
    have := ih h.2
    simp only [List.cons_append, List.takeWhile_cons, List.dropWhile_cons, h.1, if_true]
    exact Prod.ext (congrArg (a :: ·) (Prod.ext_iff.1 this).1) (Prod.ext_iff.1 this).2
theorem sign_none (l : List UInt8) (c : UInt8) (r : List UInt8) (e : l = c :: r) (h : isDig c = true ∨ c = 46) : signL l = (false, l) := by
  rw [e]
  unfold signL
  split
  · rename_i heq; injection heq with h1 _; subst h1; exact absurd h (by decide)
  · rename_i heq; injection heq with h1 _; subst h1; exact absurd h (by decide)
  · rfl
theorem powL_itoa (c : UInt8) (hc : c = 101 ∨ c = 69) (n : Int) : powL (c :: Lib.itoa n) = some n := by
  have step : ∀ (m : Nat), runL (Lib.decDigits m) = (Lib.decDigits m, []) := fun m => run_of_all _ (dec_dig m)
  unfold powL
  dsimp only
  rw [if_pos hc]
  by_cases h : n < 0
  · obtain ⟨m, rfl⟩ : ∃ m : Nat, n = -(m : Int) := ⟨n.natAbs, by omega⟩
    rw [Lib.itoa_neg m (by omega)]
    have e1 : signL (45 :: Lib.decDigits m) = (true, Lib.decDigits m) := rfl
    simp only [e1, step]
    rw [if_pos ⟨dec_ne m, trivial⟩, if_pos trivial, dec_val]
  · obtain ⟨m, rfl⟩ := Int.eq_ofNat_of_zero_le (show 0 ≤ n by omega)
    rw [Lib.itoa_nonneg]
    have e1 : signL (Lib.decDigits m) = (false, Lib.decDigits m) := by
      cases he : Lib.decDigits m with
      | nil => exact absurd he (dec_ne m)
      | cons c r =>
        refine sign_none _ c r rfl (Or.inl ?_)
        have := dec_dig m
        rw [he] at this
        simp only [List.all_cons, Bool.and_eq_true] at this
        exact this.1
    simp only [e1, step]
    rw [if_pos ⟨dec_ne m, trivial⟩, dec_val]
    rfl
theorem readV_of (l : List UInt8) (p : Pieces) (h : readL l = some p) : readV l = (p.neg, (normN (p.whole ++ p.part) (p.exp - (p.part.length : Int))).1, (normN (p.whole ++ p.part) (p.exp - (p.part.length : Int))).2, true) := by
  unfold readV
  rw [h]
  simp only [numP_norm]
def bodyL (g : Bool) (t : List UInt8) : Option Pieces :=
  match (runL t).2 with
  | 46 :: u => if (runL u).1 = [] then none else restL g (runL t).1 (runL u).1 (runL u).2
  | s => restL g (runL t).1 [] s
theorem readL_body (l : List UInt8) : readL l = bodyL (signL l).1 (signL l).2 := rfl
end Go.Proofs.YthimiidnbnlemaaDoorD
