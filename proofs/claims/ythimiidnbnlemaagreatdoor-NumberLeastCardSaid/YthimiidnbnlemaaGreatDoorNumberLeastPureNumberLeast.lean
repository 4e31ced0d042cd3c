/- NumberLeast: no text that is the number is shorter than its shortest spelling, but one that begins with a point, or a plus: of the digits, the exponent and the length of what is read one spelling is no longer. -/
import Derived.Test.YthimiidnbnlemaaGreatDoorNumberLeastPNumL
import Derived.Test.YthimiidnbnlemaaGreatDoorNumberLeastPx25
set_option linter.unusedVariables false
set_option linter.unusedSimpArgs false
namespace Go.Proofs.YthimiidnbnlemaaGreatDoor.Pure
open Go.RowKit Go.Proofs.YthimiidnbnlemaaGreatDoorX Go.Proofs.YthimiidnbnlemaaGreatDoorD Go.Proofs.YthimiidnbnlemaaGreatDoor.P Go.Proofs.YthimiidnbnlemaaGreatDoorW.PrintWords Go.Proofs.YthimiidnbnlemaaGreatDoorW.PrintLast Go.Proofs.YthimiidnbnlemaaGreatDoorW.PrintMore
theorem dl_val (D : List UInt8) (h : D.all isDig = true) (h0 : D ≠ []) : dl (val D) ≤ D.length :=
  dl_le _ _ (val_lt_pow D h) (List.length_pos_iff.2 h0)
theorem powL_len (s : List UInt8) (e : Int) (h : powL s = some e) : (s = [] ∧ e = 0) ∨ 1 + ln e ≤ s.length := by
  cases s with
  | nil => left; injection h with h; exact ⟨rfl, h.symm⟩
  | cons c r =>
    right
    unfold powL at h
    dsimp only at h
    split at h
    · split at h
      · rename_i hc hr
        injection h with h
        have hl := run_len (signL r).2
        rw [hr.2, List.length_nil] at hl
        have hd := dl_val _ (run_all (signL r).2) hr.1
        have hs : (if (signL r).1 = true then (signL r).2.length + 1 ≤ r.length else (signL r).2.length ≤ r.length) := by
          unfold signL
          split <;> simp
        rw [List.length_cons]
        rw [← h, ln_of]
        generalize val (runL (signL r).2).1 = v at *
        cases hb : (signL r).1 with
        | true =>
          rw [hb, if_pos rfl] at hs
          rw [if_pos rfl]
          by_cases hv : v = 0
          · subst hv
            rw [if_neg (by omega), show (-((0 : Nat) : Int)).natAbs = 0 from rfl]
            omega
          · rw [if_pos (by omega), show (-(v : Int)).natAbs = v from by omega]
            omega
        | false =>
          rw [hb, if_neg (by decide)] at hs
          rw [if_neg (show ¬ ((false : Bool) = true) from by decide), if_neg (show ¬ ((v : Int) < 0) from by omega), show ((v : Int)).natAbs = v from by omega]
          omega
      · cases h
    · cases h
theorem rest_len (g : Bool) (w q s : List UInt8) (p : Pieces) (h : restL g w q s = some p) : p = ⟨g, w, q, p.exp⟩ ∧ w ++ q ≠ [] ∧ ((s.length = 0 ∧ p.exp = 0) ∨ 1 + ln p.exp ≤ s.length) := by
  unfold restL at h
  cases he : powL s with
  | none => rw [he] at h; cases h
  | some e =>
    rw [he] at h
    dsimp only at h
    split at h
    · cases h
    · rename_i hn
      injection h with h
      subst h
      refine ⟨rfl, hn, ?_⟩
      rcases powL_len s e he with ⟨h1, h2⟩ | h1
      · exact Or.inl ⟨by rw [h1]; rfl, h2⟩
      · exact Or.inr h1
theorem body_len (g : Bool) (t : List UInt8) (p : Pieces) (h : bodyL g t = some p) (hp : t.head? ≠ some 46) :
    p.neg = g ∧ 1 ≤ p.whole.length ∧ (p.whole ++ p.part).all isDig = true ∧ ∃ Le, t.length = p.whole.length + (if p.part.length = 0 then 0 else 1 + p.part.length) + Le ∧ ((Le = 0 ∧ p.exp = 0) ∨ 1 + ln p.exp ≤ Le) := by
  have hl := run_len t
  have ha := run_all t
  have he := run_eq t
  unfold bodyL at h
  split at h
  · rename_i u hu
    split at h
    · cases h
    · rename_i hq
      obtain ⟨h1, h2, h3⟩ := rest_len _ _ _ _ _ h
      have hl2 := run_len u
      have hq1 := List.length_pos_iff.2 hq
      rw [hu, List.length_cons] at hl
      rw [h1]
      refine ⟨rfl, ?_, ?_, (runL u).2.length, ?_, h3⟩
      · apply Nat.le_of_not_lt
        intro h0
        have : (runL t).1 = [] := List.length_eq_zero_iff.1 (by dsimp only at h0; omega)
        rw [this, hu, List.nil_append] at he
        rw [← he] at hp
        exact hp rfl
      · dsimp only
        rw [List.all_append, ha, run_all u]; rfl
      · dsimp only
        rw [if_neg (by omega)]
        omega
  · obtain ⟨h1, h2, h3⟩ := rest_len _ _ _ _ _ h
    rw [h1]
    rw [List.append_nil] at h2
    refine ⟨rfl, List.length_pos_iff.2 h2, by dsimp only; rw [List.append_nil]; exact ha, (runL t).2.length, ?_, h3⟩
    dsimp only
    simp
    omega
theorem right_dec (m : Nat) (hm : m % 10 ≠ 0) (X : Int) : rightN (Lib.decDigits m) (Lib.itoa X) = true := by
  unfold rightN
  rw [if_neg (dec_ne m), dec_dig, (itoa_right X).1]
  have h1 : ((Lib.decDigits m).head? != some 48) = true := by
    have := dec_head m (by omega)
    simpa using this
  have h2 : ((Lib.decDigits m).getLast? != some 48) = true := by
    have hd := isDig_of (m % 10) (by omega)
    have hne : UInt8.ofNat (48 + m % 10) ≠ 48 := by
      intro e
      have := hd.2
      rw [e] at this
      have z : dv 48 = 0 := rfl
      omega
    by_cases hq : m / 10 = 0
    · rw [show m = m % 10 from by omega, Lib.decDigits_one (by omega)]
      simpa using hne
    · rw [show m = 10 * (m / 10) + m % 10 from by omega, dec_step (m / 10) (m % 10) (by omega) (by omega)]
      simpa using hne
  rw [h1, h2]
  rfl
theorem short_len (l : List UInt8) (h200 : l.length ≤ 200) (p : Pieces) (hr : readL l = some p) (hp : (signL l).2.head? ≠ some 46) (hs : (if (signL l).1 = true then (signL l).2.length + 1 else (signL l).2.length) ≤ l.length) (k : Nat) (hk : 1000020 < k) :
    ∃ t, number_Short.f k (readV l).1 (readV l).2.1 (readV l).2.2.1 = some (mk t) ∧ 0 < t.length ∧ t.length ≤ l.length := by
  have hb : bodyL (signL l).1 (signL l).2 = some p := hr
  obtain ⟨hn, hw, ha, Le, hl, he⟩ := body_len _ _ p hb hp
  rw [readV_of l p hr]
  dsimp only
  have mem : ∀ (g : Bool) (xs : List (List UInt8)) (x : List UInt8), x ∈ xs → (∀ y ∈ xs, 0 < y.length) → 0 < (shortL (xs.map fun x => if g = true then 45 :: x else x)).length ∧ (shortL (xs.map fun x => if g = true then 45 :: x else x)).length ≤ (if g = true then x.length + 1 else x.length) := by
    intro g xs x hx hy
    have h1 := shortL_le (xs.map fun x => if g = true then 45 :: x else x) _ (List.mem_map_of_mem hx)
    have h2 := shortL_mem (xs.map fun x => if g = true then 45 :: x else x) (by intro e; rw [List.map_eq_nil_iff] at e; rw [e] at hx; cases hx)
    rw [List.mem_map] at h2
    obtain ⟨y, hy1, hy2⟩ := h2
    have := hy y hy1
    refine ⟨?_, ?_⟩
    · rw [← hy2]
      split
      · simp
      · exact this
    · refine Nat.le_trans h1 ?_
      split <;> simp
  rcases norm_spec (p.whole ++ p.part) (p.exp - (p.part.length : Int)) ha with ⟨v0, e0⟩ | ⟨m, n, hm, hv, e0⟩
  · rw [e0, hn]
    rw [short_f _ [] [] (by simp) (by simp) k hk]
    refine ⟨_, rfl, ?_⟩
    rw [if_pos (show rightN [] [] = true from rfl)]
    unfold spellsL
    rw [if_pos rfl]
    have := mem (signL l).1 [[48]] [48] (by simp) (by simp)
    refine ⟨this.1, Nat.le_trans this.2 (Nat.le_trans ?_ hs)⟩
    simp only [List.length_cons, List.length_nil]
    split <;> omega
  · rw [e0, hn, S_mk]
    have hm0 : 0 < m := by omega
    have hdl : (Lib.decDigits m).length = dl m := rfl
    have hdp := dl_pow m hm0 n
    have hne : p.whole ++ p.part ≠ [] := by intro e; rw [e] at hv; have := Nat.mul_pos hm0 (Nat.pow_pos (n := n) (show 0 < 10 by omega)); rw [← hv] at this; exact absurd this (by decide)
    have hdv := dl_val _ ha hne
    rw [hv, hdp, List.length_append] at hdv
    have h1 := dl_pos m
    obtain ⟨T, hT⟩ : ∃ T, T = p.whole.length + (if p.part.length = 0 then 0 else 1 + p.part.length) + Le := ⟨_, rfl⟩
    have hT2 : T ≤ 200 := by split at hs <;> omega
    have hpart : p.part.length ≤ 200 := by split at hT <;> omega
    obtain ⟨s, hs1, hs2⟩ := least_arith (Lib.decDigits m) (by omega) n p.whole.length p.part.length Le T p.exp hw (by omega) hT hT2 he
    have hfit : Fits (p.exp + ((n : Int) - p.part.length)) 202 := by
      have f1 : Fits p.exp 201 := by
        have h1 : ln p.exp ≤ 200 := by
          rcases he with ⟨_, h⟩ | h
          · rw [h]; exact Nat.le_trans (by rw [ln_of, if_neg (by omega)]; exact dl_le 0 1 (by omega) (by omega)) (show 1 ≤ 200 by omega)
          · omega
        have h2 : dl p.exp.natAbs ≤ 201 := by rw [ln_of] at h1; split at h1 <;> omega
        have h3 := val_lt_pow _ (dec_dig p.exp.natAbs)
        rw [dec_val] at h3
        unfold Fits
        exact Nat.lt_of_lt_of_le h3 (Nat.pow_le_pow_right (by omega) h2)
      have f2 : Fits ((n : Int) - p.part.length) 3 := by unfold Fits; omega
      exact f1.add (f2.mono (by omega))
    have hX : p.exp - (p.part.length : Int) + n = p.exp + n - p.part.length := by omega
    rw [hX]
    rw [show p.exp + ((n : Int) - p.part.length) = p.exp + (n : Int) - (p.part.length : Int) from by omega] at hfit
    generalize p.exp + (n : Int) - (p.part.length : Int) = X at *
    have hXs : (Lib.itoa X).length ≤ 100000 := Nat.le_trans (itoa_len X 202 hfit (by omega)) (by omega)
    rw [short_f _ _ _ (by omega) hXs k hk]
    refine ⟨_, rfl, ?_⟩
    rw [if_pos (right_dec m hm X), (itoa_right X).2]
    unfold spellsL
    rw [if_neg (dec_ne m)]
    have pos : ∀ y ∈ plainL (Lib.decDigits m) X, 0 < y.length := by
      intro y hy
      unfold plainL firstsL lastsL spell at hy
      simp only [List.mem_append] at hy
      rcases hy with (hy | hy) | hy
      · split at hy
        · simp at hy; rw [hy]; simp <;> omega
        · split at hy
          · simp at hy; rw [hy]; simp <;> omega
          · split at hy
            · simp at hy; rw [hy]; simp <;> omega
            · cases hy
      · simp at hy; rw [hy]; simp <;> omega
      · split at hy
        · simp at hy; rw [hy]; simp <;> omega
        · cases hy
    have := mem (signL l).1 _ s hs1 pos
    refine ⟨this.1, Nat.le_trans this.2 (Nat.le_trans ?_ hs)⟩
    split <;> omega
theorem NumberLeast : abridgerlaw5_NumberLeast.Pure := by
  intro s hs
  obtain ⟨l, rfl⟩ : ∃ l, s = mk l := ⟨_, mk_of s⟩
  rw [mk_size] at hs
  obtain ⟨K, hK⟩ : ∃ K : Nat, 3000100 + 30 * l.length + 5060 ≤ K := ⟨_, Nat.le_refl _⟩
  refine ⟨K + 1, ?_⟩
  unfold abridgerlaw5_NumberLeast.f
  rw [alive5_f (K + 1) (by omega), obi, readnum_f l (by omega) (K + 1) (by omega), obi, if_pos rfl, mk_size]
  have hj : ∀ (a : Bool) (b c : ByteArray), abridgerlaw5_NumberLeast.j0 (K + 1) (mk l) true true a b c = some true := by
    intro a b c
    rw [abridgerlaw5_NumberLeast.j0, if_pos rfl]
  by_cases h200 : (l.length : Int) > 200
  · rw [if_pos h200, hj]
  rw [if_neg h200]
  cases hr : readL l with
  | none =>
    have : (readV l).2.2.2 = false := by unfold readV; rw [hr]
    rw [this, show (!false) = true from rfl, hj]
  | some p =>
    have : (readV l).2.2.2 = true := by unfold readV; rw [hr]
    rw [this, show (!true) = false from rfl, abridgerlaw5_NumberLeast.j0, if_neg (by decide), mk_size]
    cases l with
    | nil => exact absurd (show readL [] = none from rfl) (by rw [hr]; simp)
    | cons c r =>
      have hs2 : (c :: r).length = r.length + 1 := rfl
      have hb := bt_at [] c r
      simp only [List.nil_append, List.length_nil] at hb
      have hb0 : bt (mk (c :: r)) 0 = (c.toNat : Int) := hb
      rw [if_pos (by omega), hb0]
      by_cases h45 : c = 45
      · subst h45
        rw [if_pos ((cI 45 45 45 rfl).2 rfl)]
        cases r with
        | nil => exact absurd (show readL [45] = none from rfl) (by rw [hr]; simp)
        | cons a u =>
          have hb1 : bt (mk (45 :: a :: u)) 1 = (a.toNat : Int) := bt_at [45] a u
          have hs3 : (a :: u).length = u.length + 1 := rfl
          rw [if_pos (by omega), hb1]
          by_cases h46 : a = 46
          · rw [if_pos ((cI a 46 46 rfl).2 h46)]
          · rw [if_neg (fun h => h46 ((cI a 46 46 rfl).1 h)), if_neg (fun h => absurd ((cI 45 43 43 rfl).1 h) (by decide))]
            have hsg : signL (45 :: a :: u) = (true, a :: u) := rfl
            obtain ⟨t, e1, e2, e3⟩ := short_len (45 :: a :: u) (by omega) p hr (by rw [hsg]; simpa using h46) (by rw [hsg]; simp) K (by omega)
            rw [e1, obi, mk_size, if_pos (by omega)]
            exact congrArg some (decide_eq_true (by omega))
      · rw [if_neg (fun h => h45 ((cI c 45 45 rfl).1 h))]
        by_cases h46 : c = 46
        · rw [if_pos ((cI c 46 46 rfl).2 h46)]
        rw [if_neg (fun h => h46 ((cI c 46 46 rfl).1 h))]
        by_cases h43 : c = 43
        · rw [if_pos ((cI c 43 43 rfl).2 h43)]
        rw [if_neg (fun h => h43 ((cI c 43 43 rfl).1 h))]
        have hsg : signL (c :: r) = (false, c :: r) := by
          unfold signL
          split
          · rename_i heq; injection heq with h _; exact absurd h h45
          · rename_i heq; injection heq with h _; exact absurd h h43
          · rfl
        obtain ⟨t, e1, e2, e3⟩ := short_len (c :: r) (by omega) p hr (by rw [hsg]; simpa using h46) (by rw [hsg]; simp) K (by omega)
        rw [e1, obi, mk_size, if_pos (by omega)]
        exact congrArg some (decide_eq_true (by omega))
end Go.Proofs.YthimiidnbnlemaaGreatDoor.Pure
