/- PLAIN LAWS of the reference's number: ReadNum reads what Read reads, whatever the text's length. -/
import Derived.Test.YthimiidnbnlemaaGreatDoorNumberTellsPNumV
import Derived.Test.YthimiidnbnlemaaGreatDoorNumberTellsPx13
import Derived.Test.YthimiidnbnlemaaGreatDoorNumberTellsPx18
import Derived.Test.YthimiidnbnlemaaGreatDoorNumberTellsPx16
import Derived.Test.YthimiidnbnlemaaGreatDoorNumberTellsPx17
set_option linter.unusedVariables false
set_option linter.unusedSimpArgs false
namespace Go.Proofs.YthimiidnbnlemaaGreatDoorD
open Go.RowKit Go.Proofs.YthimiidnbnlemaaGreatDoorX Go.Proofs.YthimiidnbnlemaaGreatDoor.P Go.Proofs.YthimiidnbnlemaaGreatDoorW.PrintWords Go.Proofs.YthimiidnbnlemaaGreatDoorW.PrintLast Go.Proofs.YthimiidnbnlemaaGreatDoorW.PrintMore
def resV : Option Pieces → Bool × ByteArray × ByteArray × Bool
  | some p => (p.neg, (normN (p.whole ++ p.part) (p.exp - (p.part.length : Int))).1, (normN (p.whole ++ p.part) (p.exp - (p.part.length : Int))).2, true)
  | none => (false, mk [], mk [], false)
theorem readV_res (l : List UInt8) : readV l = resV (readL l) := by
  unfold readV resV
  cases readL l with
  | none => rfl
  | some p => simp only [numP_norm]
theorem bt_at (pre : List UInt8) (c : UInt8) (r : List UInt8) : bt (mk (pre ++ c :: r)) (pre.length : Int) = (c.toNat : Int) := by
  rw [bt_mk _ _ (by simp)]
  simp
theorem ex_mid (pre a t : List UInt8) : (mk (pre ++ (a ++ t))).extract pre.length (pre.length + a.length) = mk a := by
  apply of_list
  rw [Lib.extract_data, mk_list, mk_list]
  simp
theorem cI (c : UInt8) (n : Int) (d : UInt8) (h : ((d.toNat : Nat) : Int) = n) : (((c.toNat : Nat) : Int) = n) ↔ c = d := by rw [← h]; exact byte_ne c d
theorem isDig_int (c : UInt8) : isDig c = true ↔ (c.toNat : Int) ≥ 48 ∧ (c.toNat : Int) ≤ 57 := by
  rw [isDig_iff]; omega
theorem rr_f : ∀ (t pre : List UInt8) (k : Nat), (pre ++ t).length ≤ 140737488353000 → t.length + 2 < k →
    r1_run.f k (mk (pre ++ t)) (pre.length : Int) = some ((pre.length + (runL t).1.length : Nat) : Int)
  | [], pre, k, hl, hk => by
    obtain ⟨k, rfl⟩ : ∃ m, k = m + 1 := ⟨k - 1, by omega⟩
    unfold r1_run.f r1_run.l0
    rw [mk_size, if_neg (by simp)]
    rfl
  | c :: r, pre, k, hl, hk => by
    obtain ⟨k, rfl⟩ : ∃ m, k = m + 1 := ⟨k - 1, by omega⟩
    simp only [List.length_append, List.length_cons] at hl hk
    unfold r1_run.f r1_run.l0
    rw [mk_size, if_pos (by simp; omega), if_pos (by omega), bt_at]
    have ih := rr_f r (pre ++ [c]) k (by simp; omega) (by omega)
    rw [List.append_assoc, List.length_append] at ih
    have ew : wrap64 ((pre.length : Int) + 1) = ((pre.length + [c].length : Nat) : Int) := by rw [w64 (by omega) (by omega)]; simp
    by_cases h : isDig c = true
    · have h2 := (isDig_int c).1 h
      rw [if_pos h2.1, if_pos h2.2, ew]
      refine Eq.trans ih ?_
      unfold runL
      simp only [List.takeWhile_cons, h, if_true, List.length_cons, List.length_nil]
      congr 2
      omega
    · have e : (runL (c :: r)).1 = [] := by unfold runL; simp [h]
      rw [e]
      by_cases h1 : (c.toNat : Int) ≥ 48
      · rw [if_pos h1, if_neg (fun h2 => h ((isDig_int c).2 ⟨h1, h2⟩))]; rfl
      · rw [if_neg h1]; rfl
def strL : List UInt8 → List UInt8
  | [] => []
  | c :: r => if r = [] then [c] else if c = 48 then strL r else c :: r
theorem strL_dec : ∀ (l : List UInt8), l.all isDig = true → l ≠ [] → strL l = Lib.decDigits (val l)
  | [], _, h => absurd rfl h
  | c :: r, h, _ => by
    simp only [List.all_cons, Bool.and_eq_true] at h
    unfold strL
    by_cases hr : r = []
    · subst hr
      rw [if_pos rfl]
      by_cases hc : c = 48
      · subst hc; exact dec_unique [48] (by decide) (by simp) (Or.inr rfl)
      · exact dec_unique [c] (by simp [h.1]) (by simp) (Or.inl (by simpa using hc))
    rw [if_neg hr]
    by_cases hc : c = 48
    · rw [if_pos hc, strL_dec r h.2 hr, hc]
      have := val_ahead 1 r
      rw [show List.replicate 1 (48 : UInt8) ++ r = 48 :: r from rfl] at this
      rw [this]
    · rw [if_neg hc]
      exact dec_unique (c :: r) (by simp only [List.all_cons, Bool.and_eq_true]; exact h) (by simp) (Or.inl (by simpa using hc))
theorem stripped_f : ∀ (l : List UInt8) (k : Nat), l.length ≤ 140737488353000 → l.length + 2 < k → r1_stripped.f k (mk l) = some (mk (strL l))
  | [], k, hl, hk => by
    obtain ⟨k, rfl⟩ : ∃ m, k = m + 1 := ⟨k - 1, by omega⟩
    unfold r1_stripped.f r1_stripped.l0
    rw [mk_size, if_neg (by simp)]
    rfl
  | c :: r, k, hl, hk => by
    obtain ⟨k, rfl⟩ : ∃ m, k = m + 1 := ⟨k - 1, by omega⟩
    simp only [List.length_cons] at hl hk
    unfold r1_stripped.f r1_stripped.l0
    unfold strL
    by_cases hr : r = []
    · subst hr
      rw [mk_size, if_neg (by simp), if_pos rfl]
    have hr1 : 0 < r.length := List.length_pos_iff.2 hr
    rw [if_neg hr]
    have hb := bt_at [] c r
    simp only [List.nil_append, List.length_nil] at hb
    rw [mk_size, if_pos (by simp only [List.length_cons]; omega), if_pos (by simp only [List.length_cons]; omega), show (0 : Int) = ((0 : Nat) : Int) from rfl, hb]
    by_cases hc : c = 48
    · rw [if_pos hc, if_pos (by rw [hc]; rfl), if_pos (by simp only [List.length_cons]; omega)]
      have hd := mk_drop (c :: r) 1
      rw [mk_size] at hd
      rw [hd]
      exact stripped_f r k (by omega) (by omega)
    · rw [if_neg hc, if_neg (fun h => hc ((byte48 c).1 h))]
def trimR (l : List UInt8) : List UInt8 := (l.reverse.dropWhile (· == 48)).reverse
theorem trimR_snoc (t : List UInt8) (c : UInt8) : trimR (t ++ [c]) = if c = 48 then trimR t else t ++ [c] := by
  unfold trimR
  rw [List.reverse_append, List.reverse_singleton, List.singleton_append, List.dropWhile_cons]
  by_cases h : c = 48
  · rw [if_pos h, if_pos (by simp [h])]
  · rw [if_neg h, if_neg (by simpa using h)]; simp
theorem trimR_len (l : List UInt8) : (trimR l).length ≤ l.length := by
  obtain ⟨n, h⟩ := trim_eq l
  have := congrArg List.length h
  rw [List.length_append] at this
  unfold trimR
  omega
theorem rl0_f (e : ByteArray) (g : Bool) (a b : ByteArray) : ∀ (n : Nat) (k : Nat) (l : List UInt8) (x : Int), l.length = n → n ≤ 140737488353000 → n + 2 < k → -140737488353000 ≤ x → x + n ≤ 140737488353000 →
    ∃ k', k ≤ k' + n + 1 ∧ k' < k ∧ r1_ReadNum.l0 k e (mk l) x g a b = r1_ReadNum.j9 k' e (mk (trimR l)) (x + ((l.length : Int) - ((trimR l).length : Int))) g a b := by
  intro n
  induction n with
  | zero =>
    intro k l x hl hn hk h1 h2
    obtain ⟨k, rfl⟩ : ∃ m, k = m + 1 := ⟨k - 1, by omega⟩
    have : l = [] := List.length_eq_zero_iff.1 hl
    subst this
    refine ⟨k, by omega, by omega, ?_⟩
    unfold r1_ReadNum.l0
    rw [mk_size, if_neg (by simp)]
    show _ = r1_ReadNum.j9 k e (mk []) (x + (0 - 0)) g a b
    rw [show x + (0 - 0) = x from by omega]
  | succ n ih =>
    intro k l x hl hn hk h1 h2
    obtain ⟨k, rfl⟩ : ∃ m, k = m + 1 := ⟨k - 1, by omega⟩
    obtain ⟨t, c, ht⟩ : ∃ t c, l = t ++ [c] := by
      have hne : l ≠ [] := by intro h; rw [h] at hl; simp at hl
      exact ⟨l.dropLast, l.getLast hne, (List.dropLast_concat_getLast hne).symm⟩
    subst ht
    have htl : t.length = n := by simpa using hl
    unfold r1_ReadNum.l0
    rw [mk_size, hl]
    rw [if_pos (by omega), w64 (x := ((n + 1 : Nat) : Int) - 1) (by omega) (by omega), show ((n + 1 : Nat) : Int) - 1 = (t.length : Int) from by omega, if_pos (by omega), if_pos (by omega), bt_at, trimR_snoc]
    by_cases hc : c = 48
    · rw [if_pos (by rw [hc]; rfl), if_pos hc, if_pos (by omega), show ((t.length : Int)).toNat = t.length from by omega, mk_take, List.take_left, w64 (x := x + 1) (by omega) (by omega)]
      obtain ⟨k', h3, h4, h5⟩ := ih k t (x + 1) htl (by omega) (by omega) (by omega) (by omega)
      refine ⟨k', by omega, by omega, ?_⟩
      rw [h5, htl]
      congr 1
      omega
    · rw [if_neg (fun h => hc ((byte48 c).1 h)), if_neg hc]
      refine ⟨k, by omega, by omega, ?_⟩
      congr 1
      simp only [List.length_append, List.length_cons, List.length_nil]
      omega
theorem rj9_f (E : Int) (hE : (S E).size ≤ 140737488353000) (s : List UInt8) (x : Int) (hx1 : -140737488353000 ≤ x) (hx2 : x ≤ 140737488353000) (g : Bool) (a b : ByteArray) (k : Nat) (hk : 20 * (S E).size + 3000 < k) :
    r1_ReadNum.j9 k (S E) (mk s) x g a b = some (if s = [] then (g, a, b, true) else (g, mk s, S (E + x), true)) := by
  obtain ⟨k, rfl⟩ : ∃ m, k = m + 1 := ⟨k - 1, by omega⟩
  rw [r1_ReadNum.j9]
  by_cases hs : s = []
  · subst hs
    rw [if_pos (mk_toList []), if_pos rfl]
  · rw [if_neg (by rw [mk_toList]; exact hs), if_neg hs, dec_f x (by omega) (by omega) k (by omega), obi]
    have hz : (S x).size ≤ 20 := S_len x 19 (by omega) (by omega)
    rw [radd_f (S E) (S x) (S_right E) (S_right x) (by omega) (by omega) k (by omega), obi, S_toI, S_toI]
theorem rj7_f (l : List UInt8) (d p : List UInt8) (E : Int) (g : Bool) (hl : l.length ≤ 140737488352000) (hdp : (d ++ p).length ≤ l.length) (hE : (S E).size ≤ 140737488352000) (hd : (d ++ p).all isDig = true) (hne : d ++ p ≠ []) (i : Nat) (k : Nat) (hk : 20 * (S E).size + 2 * l.length + 4000 < k) :
    r1_ReadNum.j7 k (mk l) (i : Int) (mk d) (mk p) (S E) g (mk []) (mk []) = some (if i = l.length then resV (some ⟨g, d, p, E⟩) else resV none) := by
  obtain ⟨k, rfl⟩ : ∃ m, k = m + 1 := ⟨k - 1, by omega⟩
  rw [r1_ReadNum.j7]
  simp only [List.length_append] at hdp
  rw [mk_size]
  by_cases hi : i = l.length
  · rw [if_pos (by omega), if_pos hi, mk_size, mk_size, if_pos (by omega), mk_append, stripped_f _ k (by simp; omega) (by simp; omega), obi, strL_dec _ hd hne, w64 (by omega) (by omega)]
    have hs := strip (d ++ p) hd
    have hv := val_lt_pow _ hd
    have hlen : (Lib.decDigits (val (d ++ p))).length ≤ (d ++ p).length := dec_len_le _ _ hv (List.length_pos_iff.2 hne)
    simp only [List.length_append] at hlen
    obtain ⟨k', h3, h4, h5⟩ := rl0_f (S E) g (mk []) (mk []) _ k (Lib.decDigits (val (d ++ p))) (-(p.length : Int)) rfl (by omega) (by omega) (by omega) (by omega)
    have htr := trimR_len (Lib.decDigits (val (d ++ p)))
    rw [h5, rj9_f E (by omega) _ _ (by omega) (by omega) g _ _ k' (by omega)]
    refine congrArg some ?_
    unfold resV normN
    dsimp only
    rw [hs]
    by_cases h0 : val (d ++ p) = 0
    · rw [if_pos h0, if_pos rfl, h0, dec_zero]
      rfl
    · rw [if_neg h0, if_neg (dec_ne _)]
      have hpos : trimR (Lib.decDigits (val (d ++ p))) ≠ [] := by
        intro e
        obtain ⟨n, hn⟩ := trim_eq (Lib.decDigits (val (d ++ p)))
        have e' : ((Lib.decDigits (val (d ++ p))).reverse.dropWhile (· == 48)).reverse = [] := e
        rw [e', List.nil_append] at hn
        have := congrArg val hn
        rw [dec_val] at this
        have hz := val_noughts [] n
        rw [List.nil_append, val_nil] at hz
        omega
      rw [if_neg hpos]
      refine Prod.ext rfl (Prod.ext rfl (Prod.ext ?_ rfl))
      show S _ = S _
      congr 1
      unfold trimR
      omega
  · rw [if_neg (by omega), if_neg hi]
    rfl
theorem run_eq (t : List UInt8) : (runL t).1 ++ (runL t).2 = t := List.takeWhile_append_dropWhile
theorem S_of (v : Nat) : S (v : Int) = mk (Lib.decDigits v) := by rw [S_mk, Lib.itoa_nonneg]
theorem S_val_size (l : List UInt8) (h : l.all isDig = true) (h0 : l ≠ []) (n : Int) (hn : n.natAbs = val l) : (S n).size ≤ l.length + 1 := by
  refine S_size_le n l.length ?_ (List.length_pos_iff.2 h0)
  unfold Fits
  rw [hn]
  exact val_lt_pow l h
theorem rj6_f (pre t d p : List UInt8) (g minus : Bool) (hl : (pre ++ t).length ≤ 140737488351900) (hdp : (d ++ p).length ≤ (pre ++ t).length) (hd : (d ++ p).all isDig = true) (hne : d ++ p ≠ []) (k : Nat) (hk : 30 * (pre ++ t).length + 5000 < k) :
    r1_ReadNum.j6 k (mk (pre ++ t)) (pre.length : Int) (mk d) (mk p) minus g (mk []) (mk []) =
      some (if (runL t).1 ≠ [] ∧ (runL t).2 = [] then resV (some ⟨g, d, p, if minus = true then -((val (runL t).1 : Nat) : Int) else ((val (runL t).1 : Nat) : Int)⟩) else resV none) := by
  obtain ⟨k, rfl⟩ : ∃ m, k = m + 1 := ⟨k - 1, by omega⟩
  have hlen := run_len t
  have hlt : (pre ++ t).length = pre.length + t.length := List.length_append
  rw [r1_ReadNum.j6, rr_f t pre k (by omega) (by omega), obi]
  by_cases h0 : (runL t).1 = []
  · rw [if_pos (by rw [h0]; simp), if_neg (fun h => h.1 h0)]
    rfl
  have hpos := List.length_pos_iff.2 h0
  rw [if_neg (by omega), if_pos (by omega), if_pos (by omega), mk_size, if_pos (by omega), Int.toNat_natCast, Int.toNat_natCast]
  have hx := ex_mid pre (runL t).1 (runL t).2
  rw [run_eq] at hx
  rw [hx, stripped_f _ k (by omega) (by omega), obi, strL_dec _ (run_all t) h0]
  have hsz : ∀ n : Int, n.natAbs = val (runL t).1 → (S n).size ≤ (runL t).1.length + 1 := fun n hn => S_val_size _ (run_all t) h0 n hn
  have fin : ∀ E : Int, E.natAbs = val (runL t).1 → r1_ReadNum.j7 k (mk (pre ++ t)) ((pre.length + (runL t).1.length : Nat) : Int) (mk d) (mk p) (S E) g (mk []) (mk []) = some (if (runL t).1 ≠ [] ∧ (runL t).2 = [] then resV (some ⟨g, d, p, E⟩) else resV none) := by
    intro E hE
    have := hsz E hE
    rw [rj7_f (pre ++ t) d p E g (by omega) hdp (by omega) hd hne _ k (by omega)]
    by_cases h2 : (runL t).2 = []
    · rw [h2] at hlen
      rw [if_pos (by simp at hlen; omega), if_pos ⟨h0, h2⟩]
    · have := List.length_pos_iff.2 h2
      rw [if_neg (by omega), if_neg (fun h => h2 h.2)]
  cases minus with
  | false =>
    rw [if_neg (by decide), ← S_of, fin _ (by omega)]
    rfl
  | true =>
    rw [if_pos rfl, ← S_of]
    by_cases hz : val (runL t).1 = 0
    · rw [if_pos ((S_zero_iff _).2 (by omega)), fin _ (by omega), hz]
      rfl
    · have h1 := hsz (val (runL t).1 : Int) (by omega)
      rw [if_neg (fun h => hz (by have := (S_zero_iff _).1 h; omega)), if_pos (by omega), minus_S _ (by omega), fin _ (by omega)]
      rfl
theorem w_next (pre : List UInt8) (c : UInt8) (h : pre.length ≤ 140737488353000) : wrap64 ((pre.length : Int) + 1) = ((pre ++ [c]).length : Int) := by
  rw [w64 (by omega) (by omega)]; simp
theorem restL_of (g : Bool) (d p t : List UInt8) (h : d ++ p ≠ []) : restL g d p t = match powL t with | some e => some ⟨g, d, p, e⟩ | none => none := by
  unfold restL
  cases powL t with
  | none => rfl
  | some e => dsimp only; rw [if_neg h]
theorem rj4_f (pre t d p : List UInt8) (g b : Bool) (hb : b = true ↔ ∃ c r, t = c :: r ∧ (c = 101 ∨ c = 69)) (hl : (pre ++ t).length ≤ 140737488351900) (hdp : (d ++ p).length ≤ (pre ++ t).length) (hd : (d ++ p).all isDig = true) (hne : d ++ p ≠ []) (k : Nat) (hk : 30 * (pre ++ t).length + 5010 < k) :
    r1_ReadNum.j4 k (mk (pre ++ t)) (pre.length : Int) (mk d) (mk p) (⟨#[48]⟩ : ByteArray) b g (mk []) (mk []) = some (resV (restL g d p t)) := by
  obtain ⟨k, rfl⟩ : ∃ m, k = m + 2 := ⟨k - 2, by omega⟩
  have hlt : (pre ++ t).length = pre.length + t.length := List.length_append
  rw [restL_of g d p t hne, r1_ReadNum.j4]
  cases b with
  | false =>
    have h0 : (⟨#[48]⟩ : ByteArray) = S 0 := by rw [show (0 : Int) = ((0 : Nat) : Int) from rfl, S_of, dec_zero]; rfl
    have hz : (S 0).size ≤ 1 := by rw [← h0]; decide
    rw [if_neg (by decide), h0, rj7_f (pre ++ t) d p 0 g (by omega) hdp (by omega) hd hne _ _ (by omega)]
    cases t with
    | nil => rw [if_pos (by simp)]; rfl
    | cons c r =>
      have hc : ¬ (c = 101 ∨ c = 69) := fun h => absurd (hb.2 ⟨c, r, rfl, h⟩) (by decide)
      have : powL (c :: r) = none := by unfold powL; dsimp only; rw [if_neg hc]
      rw [this, if_neg (by simp)]
  | true =>
    obtain ⟨c, r, rfl, hc⟩ := hb.1 rfl
    have ha : pre ++ c :: r = (pre ++ [c]) ++ r := by simp
    have hr : (c :: r).length = r.length + 1 := rfl
    rw [if_pos rfl, w_next pre c (by omega), mk_size]
    rw [ha] at hl hdp hk hlt ⊢
    generalize hp : pre ++ [c] = q at *
    have hq : (q ++ r).length = q.length + r.length := List.length_append
    have pw : powL (c :: r) = (if (runL (signL r).2).1 ≠ [] ∧ (runL (signL r).2).2 = [] then some (if (signL r).1 = true then -((val (runL (signL r).2).1 : Nat) : Int) else ((val (runL (signL r).2).1 : Nat) : Int)) else none) := by
      unfold powL; dsimp only; rw [if_pos hc]
    have done : ∀ (u : List UInt8) (m : Bool), signL r = (m, u) → (if (runL u).1 ≠ [] ∧ (runL u).2 = [] then resV (some ⟨g, d, p, if m = true then -((val (runL u).1 : Nat) : Int) else ((val (runL u).1 : Nat) : Int)⟩) else resV none) = resV (match powL (c :: r) with | some e => some ⟨g, d, p, e⟩ | none => none) := by
      intro u m hs
      rw [pw, hs]
      dsimp only
      by_cases h : (runL u).1 ≠ [] ∧ (runL u).2 = []
      · rw [if_pos h, if_pos h]
      · rw [if_neg h, if_neg h]
    cases r with
    | nil =>
      rw [if_neg (by simp), r1_ReadNum.j5, if_neg (by decide), rj6_f q [] d p g false hl hdp hd hne k (by omega)]
      exact congrArg some (done [] false rfl)
    | cons a s =>
      have ha2 : q ++ a :: s = (q ++ [a]) ++ s := by simp
      have hs2 : (a :: s).length = s.length + 1 := rfl
      rw [if_pos (by rw [hq]; omega), if_pos (by omega), bt_at]
      by_cases h43 : a = 43
      · subst h43
        rw [if_pos ((cI 43 43 43 rfl).2 rfl), r1_ReadNum.j5, if_pos rfl, if_pos (by omega), mk_size, if_pos (by rw [hq]; omega), bt_at, w_next q 43 (by omega)]
        rw [ha2] at hl hdp hk ⊢
        rw [show (((43 : UInt8).toNat : Int) == 45) = false from rfl, rj6_f (q ++ [43]) s d p g false hl hdp hd hne k (by omega)]
        exact congrArg some (done s false rfl)
      · rw [if_neg (fun h => h43 ((cI a 43 43 rfl).1 h))]
        by_cases h45 : a = 45
        · subst h45
          rw [show (((45 : UInt8).toNat : Int) == 45) = true from rfl, r1_ReadNum.j5, if_pos rfl, if_pos (by omega), mk_size, if_pos (by rw [hq]; omega), bt_at, w_next q 45 (by omega)]
          rw [ha2] at hl hdp hk ⊢
          rw [show (((45 : UInt8).toNat : Int) == 45) = true from rfl, rj6_f (q ++ [45]) s d p g true hl hdp hd hne k (by omega)]
          exact congrArg some (done s true rfl)
        · rw [beq_eq_false_iff_ne.2 (fun h => h45 ((cI a 45 45 rfl).1 h)), r1_ReadNum.j5, if_neg (by decide), rj6_f q (a :: s) d p g false hl hdp hd hne k (by omega)]
          refine congrArg some (done (a :: s) false ?_)
          unfold signL
          split
          · rename_i heq; injection heq with h _; exact absurd h h45
          · rename_i heq; injection heq with h _; exact absurd h h43
          · rfl
theorem rj3_f (pre t d p : List UInt8) (g : Bool) (hl : (pre ++ t).length ≤ 140737488351900) (hdp : (d ++ p).length ≤ (pre ++ t).length) (hd : (d ++ p).all isDig = true) (k : Nat) (hk : 30 * (pre ++ t).length + 5020 < k) :
    r1_ReadNum.j3 k (mk (pre ++ t)) (pre.length : Int) (mk d) (mk p) g (mk []) (mk []) = some (resV (restL g d p t)) := by
  obtain ⟨k, rfl⟩ : ∃ m, k = m + 1 := ⟨k - 1, by omega⟩
  have hlt : (pre ++ t).length = pre.length + t.length := List.length_append
  simp only [List.length_append] at hdp
  rw [r1_ReadNum.j3, mk_size, mk_size, if_pos (by omega), mk_append, mk_toList]
  by_cases h0 : d ++ p = []
  · rw [if_pos h0]
    unfold restL
    cases powL t with
    | none => rfl
    | some e => dsimp only; rw [if_pos h0]; rfl
  rw [if_neg h0, mk_size]
  cases t with
  | nil =>
    rw [if_neg (by simp)]
    exact rj4_f pre [] d p g false (by simp) hl (by simp only [List.length_append]; omega) hd h0 k (by omega)
  | cons c r =>
    have hs2 : (c :: r).length = r.length + 1 := rfl
    rw [if_pos (by omega), if_pos (by omega), bt_at]
    by_cases h1 : c = 101
    · rw [if_pos (by rw [h1]; rfl)]
      exact rj4_f pre (c :: r) d p g true ⟨fun _ => ⟨c, r, rfl, Or.inl h1⟩, fun _ => rfl⟩ hl (by simp only [List.length_append]; omega) hd h0 k (by omega)
    · rw [if_neg (fun h => h1 ((cI c 101 101 rfl).1 h))]
      by_cases h2 : c = 69
      · rw [show ((c.toNat : Int) == 69) = true from by rw [h2]; rfl]
        exact rj4_f pre (c :: r) d p g true ⟨fun _ => ⟨c, r, rfl, Or.inr h2⟩, fun _ => rfl⟩ hl (by simp only [List.length_append]; omega) hd h0 k (by omega)
      · rw [beq_eq_false_iff_ne.2 (fun h => h2 ((cI c 69 69 rfl).1 h))]
        refine rj4_f pre (c :: r) d p g false ⟨fun h => absurd h (by decide), ?_⟩ hl (by simp only [List.length_append]; omega) hd h0 k (by omega)
        rintro ⟨c', r', h, h'⟩
        injection h with h _
        rw [← h] at h'
        rcases h' with h' | h'
        · exact absurd h' h1
        · exact absurd h' h2
def bodyL (g : Bool) (t : List UInt8) : Option Pieces :=
  match (runL t).2 with
  | 46 :: u => if (runL u).1 = [] then none else restL g (runL t).1 (runL u).1 (runL u).2
  | s => restL g (runL t).1 [] s
theorem readL_body (l : List UInt8) : readL l = bodyL (signL l).1 (signL l).2 := rfl
theorem rj1_f (pre t : List UInt8) (g : Bool) (hl : (pre ++ t).length ≤ 140737488351900) (k : Nat) (hk : 30 * (pre ++ t).length + 5040 < k) :
    r1_ReadNum.j1 k (mk (pre ++ t)) (pre.length : Int) g (mk []) (mk []) = some (resV (bodyL g t)) := by
  obtain ⟨k, rfl⟩ : ∃ m, k = m + 2 := ⟨k - 2, by omega⟩
  have hlt : (pre ++ t).length = pre.length + t.length := List.length_append
  have hlen := run_len t
  have hall := run_all t
  have hx := ex_mid pre (runL t).1 (runL t).2
  rw [run_eq] at hx
  rw [r1_ReadNum.j1, rr_f t pre (k + 1) (by omega) (by omega), obi, if_pos (by omega), if_pos (by omega), mk_size, if_pos (by omega), Int.toNat_natCast, Int.toNat_natCast, hx]
  have hq : pre ++ t = (pre ++ (runL t).1) ++ (runL t).2 := by rw [List.append_assoc, run_eq]
  have hql : ((pre.length + (runL t).1.length : Nat) : Int) = ((pre ++ (runL t).1).length : Int) := by rw [List.length_append]
  rw [hql]
  rw [hq] at hl hk hlt ⊢
  unfold bodyL
  generalize (runL t).1 = d at *
  generalize hq0 : pre ++ d = q at *
  have hqd : q.length = pre.length + d.length := by rw [← hq0, List.length_append]
  have plain : ∀ s : List UInt8, (q ++ s).length ≤ 140737488351900 → 30 * (q ++ s).length + 5030 < k + 1 → r1_ReadNum.j2 (k + 1) (mk (q ++ s)) (q.length : Int) (mk d) (⟨#[]⟩ : ByteArray) false g (mk []) (mk []) = some (resV (restL g d [] s)) := by
    intro s h1 h2
    rw [r1_ReadNum.j2, if_neg (by decide)]
    exact rj3_f q s d [] g h1 (by simp only [List.length_append, List.length_nil]; omega) (by rw [List.append_nil]; exact hall) k (by omega)
  cases hr : (runL t).2 with
  | nil =>
    rw [hr] at hl hk
    rw [if_neg (by simp)]
    exact plain [] hl (by omega)
  | cons c u =>
    rw [hr] at hl hk hlen
    have hs2 : (c :: u).length = u.length + 1 := rfl
    have hqc : (q ++ c :: u).length = q.length + (c :: u).length := List.length_append
    rw [if_pos (by omega), if_pos (by omega), bt_at]
    by_cases hc : c = 46
    · subst hc
      rw [show (((46 : UInt8).toNat : Int) == 46) = true from rfl, r1_ReadNum.j2, if_pos rfl, w_next q 46 (by omega)]
      have ha : q ++ 46 :: u = (q ++ [46]) ++ u := by simp
      rw [ha] at hl hk ⊢
      have hal := congrArg List.length ha
      generalize hw : q ++ [46] = w at *
      have hwl : w.length = q.length + 1 := by rw [← hw]; simp
      have hlen2 := run_len u
      have hall2 := run_all u
      have hx2 := ex_mid w (runL u).1 (runL u).2
      rw [run_eq] at hx2
      rw [rr_f u w k (by omega) (by omega), obi, if_pos (by omega), if_pos (by omega), mk_size, if_pos (by rw [List.length_append]; omega), Int.toNat_natCast, Int.toNat_natCast, hx2, mk_toList]
      show _ = some (resV (if (runL u).1 = [] then none else restL g d (runL u).1 (runL u).2))
      by_cases h0 : (runL u).1 = []
      · rw [if_pos h0, if_pos h0]; rfl
      rw [if_neg h0, if_neg h0]
      have hq2 : w ++ u = (w ++ (runL u).1) ++ (runL u).2 := by rw [List.append_assoc, run_eq]
      have hql2 : ((w.length + (runL u).1.length : Nat) : Int) = ((w ++ (runL u).1).length : Int) := by rw [List.length_append]
      rw [hql2]
      have hlw := @List.length_append _ w u
      rw [hq2] at hl hk hlw ⊢
      exact rj3_f (w ++ (runL u).1) (runL u).2 d (runL u).1 g hl (by simp only [List.length_append] at hlw ⊢; omega) (by rw [List.all_append, hall, hall2]; rfl) k (by omega)
    · rw [beq_eq_false_iff_ne.2 (fun h => hc ((cI c 46 46 rfl).1 h)), plain (c :: u) hl (by omega)]
      split
      · rename_i heq; injection heq with h _; exact absurd h hc
      · rfl
theorem readnum_f (l : List UInt8) (hl : l.length ≤ 140737488351900) (k : Nat) (hk : 30 * l.length + 5060 < k) : r1_ReadNum.f k (mk l) = some (readV l) := by
  obtain ⟨k, rfl⟩ : ∃ m, k = m + 1 := ⟨k - 1, by omega⟩
  rw [readV_res, readL_body]
  unfold r1_ReadNum.f
  rw [mk_size]
  have plain : signL l = (false, l) → r1_ReadNum.j0 (k + 1) (mk l) 0 false false (⟨#[]⟩ : ByteArray) (⟨#[]⟩ : ByteArray) = some (resV (bodyL (signL l).1 (signL l).2)) := by
    intro h
    rw [h, r1_ReadNum.j0, if_neg (by decide)]
    exact rj1_f [] l false (by simpa using hl) k (by simp only [List.nil_append]; omega)
  cases l with
  | nil => rw [if_neg (by simp)]; exact plain rfl
  | cons c r =>
    have hs2 : (c :: r).length = r.length + 1 := rfl
    have hb := bt_at [] c r
    simp only [List.nil_append, List.length_nil] at hb
    have hb0 : bt (mk (c :: r)) 0 = (c.toNat : Int) := hb
    have hw := w_next [] c (by simp)
    simp only [List.nil_append, List.length_nil] at hw
    have hw0 : wrap64 ((0 : Int) + 1) = (([c] : List UInt8).length : Int) := hw
    rw [if_pos (by omega), hb0]
    by_cases h43 : c = 43
    · subst h43
      rw [if_pos ((cI 43 43 43 rfl).2 rfl), r1_ReadNum.j0, if_pos rfl, if_pos (by omega), mk_size, if_pos (by omega), hb0, hw0]
      exact rj1_f [43] r false (by simpa using hl) k (by simp only [List.singleton_append]; omega)
    · rw [if_neg (fun h => h43 ((cI c 43 43 rfl).1 h))]
      by_cases h45 : c = 45
      · subst h45
        rw [show (((45 : UInt8).toNat : Int) == 45) = true from rfl, r1_ReadNum.j0, if_pos rfl, if_pos (by omega), mk_size, if_pos (by omega), hb0, hw0]
        exact rj1_f [45] r true (by simpa using hl) k (by simp only [List.singleton_append]; omega)
      · rw [beq_eq_false_iff_ne.2 (fun h => h45 ((cI c 45 45 rfl).1 h))]
        refine plain ?_
        unfold signL
        split
        · rename_i heq; injection heq with h _; exact absurd h h45
        · rename_i heq; injection heq with h _; exact absurd h h43
        · rfl
end Go.Proofs.YthimiidnbnlemaaGreatDoorD
