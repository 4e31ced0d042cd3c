/- PLAIN LAWS of number: each spelling of a number is read as that number. -/
import Derived.Test.YthimiidnbnlemaaGreatDoorNumberBackPNumR
set_option linter.unusedVariables false
set_option linter.unusedSimpArgs false
namespace Go.Proofs.YthimiidnbnlemaaGreatDoorD
open Go.RowKit Go.Proofs.YthimiidnbnlemaaGreatDoorX Go.Proofs.YthimiidnbnlemaaGreatDoor.P Go.Proofs.YthimiidnbnlemaaGreatDoorW.PrintWords Go.Proofs.YthimiidnbnlemaaGreatDoorW.PrintLast Go.Proofs.YthimiidnbnlemaaGreatDoorW.PrintMore
theorem drop_same {p : UInt8 → Bool} : ∀ (l : List UInt8), (∀ c r, l = c :: r → p c = false) → l.dropWhile p = l
  | [], _ => rfl
  | c :: r, h => by rw [List.dropWhile_cons, h c r rfl]; rfl
theorem norm_self (d : List UInt8) (e : Int) (hne : d ≠ []) (hh : d.head? ≠ some 48) (hl : d.getLast? ≠ some 48) : normN d e = (mk d, S e) := by
  have h1 : d.dropWhile (· == 48) = d := drop_same d (fun c r h => by
    rw [h] at hh
    simp only [List.head?_cons, ne_eq, Option.some.injEq] at hh
    simpa using hh)
  have h2 : d.reverse.dropWhile (· == 48) = d.reverse := drop_same _ (fun c r h => by
    have : d.getLast? = some c := by rw [← List.head?_reverse, h]; rfl
    rw [this] at hl
    simp only [ne_eq, Option.some.injEq] at hl
    simpa using hl)
  unfold normN
  rw [h1, h2, if_neg hne, List.reverse_reverse]
  refine Prod.ext rfl ?_
  show S _ = S _
  congr 1
  omega
theorem rep_dig (n : Nat) : (List.replicate n (48 : UInt8)).all isDig = true := by
  rw [List.all_eq_true]
  intro x hx
  rw [List.eq_of_mem_replicate hx]
  decide
theorem restL_nil (g : Bool) (w p : List UInt8) (h : w ++ p ≠ []) : restL g w p [] = some ⟨g, w, p, 0⟩ := by
  unfold restL
  show (if w ++ p = [] then none else some _) = _
  rw [if_neg h]
theorem restL_e (g : Bool) (w p : List UInt8) (n : Int) (h : w ++ p ≠ []) : restL g w p (101 :: Lib.itoa n) = some ⟨g, w, p, n⟩ := by
  unfold restL
  rw [powL_itoa 101 (Or.inl rfl) n]
  dsimp only
  rw [if_neg h]
theorem stop_e (n : Int) : ∀ c r, (101 : UInt8) :: Lib.itoa n = c :: r → isDig c = false := fun c r h => by injection h with h _; rw [← h]; decide
theorem body_whole (g : Bool) (D t : List UInt8) (hD : D.all isDig = true) (ht : ∀ c r, t = c :: r → isDig c = false) (h46 : ∀ r, t ≠ 46 :: r) : bodyL g (D ++ t) = restL g D [] t := by
  unfold bodyL
  rw [run_stop D t hD ht]
  dsimp only
  split
  · rename_i u
    exact absurd rfl (h46 u)
  · rfl
theorem body_part (g : Bool) (w p t : List UInt8) (hw : w.all isDig = true) (hp : p.all isDig = true) (hn : p ≠ []) (ht : ∀ c r, t = c :: r → isDig c = false) : bodyL g (w ++ 46 :: (p ++ t)) = restL g w p t := by
  unfold bodyL
  rw [run_stop w (46 :: (p ++ t)) hw (fun c r h => by injection h with h _; rw [← h]; decide)]
  show (if (runL (p ++ t)).1 = [] then none else restL g w (runL (p ++ t)).1 (runL (p ++ t)).2) = _
  rw [run_stop p t hp ht]
  show (if p = [] then none else restL g w p t) = _
  rw [if_neg hn]
theorem read_of (g : Bool) (x : List UInt8) (p : Pieces) (h : bodyL g x = some p) (hg : p.neg = g) (hc : ∃ c r, x = c :: r ∧ isDig c = true) :
    readV (if g = true then 45 :: x else x) = (g, (normN (p.whole ++ p.part) (p.exp - (p.part.length : Int))).1, (normN (p.whole ++ p.part) (p.exp - (p.part.length : Int))).2, true) := by
  have hs : signL (if g = true then 45 :: x else x) = (g, x) := by
    cases g with
    | true => rfl
    | false =>
      obtain ⟨c, r, e, h⟩ := hc
      exact sign_none x c r e (Or.inl h)
  have hr : readL (if g = true then 45 :: x else x) = some p := by
    rw [readL_body, hs]
    exact h
  rw [readV_of _ p hr, hg]
theorem head_dig (d : List UInt8) (h : d.all isDig = true) (hne : d ≠ []) : ∃ c r, d = c :: r ∧ isDig c = true := by
  cases d with
  | nil => exact absurd rfl hne
  | cons c r =>
    simp only [List.all_cons, Bool.and_eq_true] at h
    exact ⟨c, r, rfl, h.1⟩
theorem head_app (a b : List UInt8) (h : ∃ c r, a = c :: r ∧ isDig c = true) : ∃ c r, a ++ b = c :: r ∧ isDig c = true := by
  obtain ⟨c, r, e, h⟩ := h
  exact ⟨c, r ++ b, by rw [e]; rfl, h⟩
theorem all_take (d : List UInt8) (n : Nat) (h : d.all isDig = true) : (d.take n).all isDig = true := by
  rw [List.all_eq_true] at h ⊢
  exact fun x hx => h x (List.mem_of_mem_take hx)
theorem all_drop (d : List UInt8) (n : Nat) (h : d.all isDig = true) : (d.drop n).all isDig = true := by
  rw [List.all_eq_true] at h ⊢
  exact fun x hx => h x (List.mem_of_mem_drop hx)
theorem plain_back (g : Bool) (d : List UInt8) (e : Int) (hd : d.all isDig = true) (hne : d ≠ []) (hh : d.head? ≠ some 48) (hl : d.getLast? ≠ some 48) (x : List UInt8) (hx : x ∈ plainL d e) :
    readV (if g = true then 45 :: x else x) = (g, mk d, S e, true) := by
  have hself := norm_self d e hne hh hl
  have hlen : 0 < d.length := List.length_pos_iff.2 hne
  have key : ∀ p : Pieces, bodyL g x = some p → p.neg = g → (∃ c r, x = c :: r ∧ isDig c = true) → normN (p.whole ++ p.part) (p.exp - (p.part.length : Int)) = normN d e → readV (if g = true then 45 :: x else x) = (g, mk d, S e, true) := by
    intro p h1 h2 h3 h4
    rw [read_of g x p h1 h2 h3, h4, hself]
  unfold plainL at hx
  simp only [List.mem_append, List.mem_singleton] at hx
  rcases hx with (hx | hx) | hx
  · unfold firstsL at hx
    split at hx
    · rename_i h
      rw [List.mem_singleton] at hx
      subst hx
      have hD : (d ++ List.replicate e.toNat 48).all isDig = true := by rw [List.all_append, hd, rep_dig]; rfl
      have hb := body_whole g (d ++ List.replicate e.toNat 48) [] hD (fun c r h => by cases h) (fun r h => by cases h)
      rw [List.append_nil, restL_nil g _ [] (by simp [hne])] at hb
      refine key _ hb rfl (head_app _ _ (head_dig d hd hne)) ?_
      dsimp only
      rw [List.append_nil, norm_eq _ _ _ _ 0 hD hd (by simp) (by omega)]
      rw [val_noughts]
      simp
    · split at hx
      · rename_i _ h
        rw [List.mem_singleton] at hx
        subst hx
        have hb := body_part g (d.take ((d.length : Int) + e).toNat) (d.drop ((d.length : Int) + e).toNat) [] (all_take _ _ hd) (all_drop _ _ hd) (by intro z; have := congrArg List.length z; rw [List.length_drop] at this; simp at this; omega) (fun c r h => by cases h)
        rw [List.append_nil, restL_nil g _ _ (by rw [List.take_append_drop]; exact hne)] at hb
        refine key _ hb rfl (head_app _ _ (head_dig _ (all_take _ _ hd) (by intro z; have := congrArg List.length z; rw [List.length_take, List.length_nil] at this; omega))) ?_
        dsimp only
        rw [List.take_append_drop, List.length_drop]
        congr 1
        omega
      · split at hx
        · rename_i _ _ h
          rw [List.mem_singleton] at hx
          subst hx
          have hp : (List.replicate (-e - (d.length : Int)).toNat 48 ++ d).all isDig = true := by rw [List.all_append, hd, rep_dig]; rfl
          have hb := body_part g [48] (List.replicate (-e - (d.length : Int)).toNat 48 ++ d) [] rfl hp (by simp [hne]) (fun c r h => by cases h)
          rw [List.append_nil, restL_nil g _ _ (by simp)] at hb
          refine key _ hb rfl ⟨48, _, rfl, by decide⟩ ?_
          dsimp only
          have hD : (48 :: (List.replicate (-e - (d.length : Int)).toNat 48 ++ d)).all isDig = true := by rw [List.all_cons, hp]; rfl
          have hv : val (48 :: (List.replicate (-e - (d.length : Int)).toNat 48 ++ d)) = val d := by
            have := val_ahead ((-e - (d.length : Int)).toNat + 1) d
            rwa [List.replicate_succ] at this
          show normN (48 :: (List.replicate (-e - (d.length : Int)).toNat 48 ++ d)) _ = _
          rw [List.length_append, List.length_replicate, norm_eq _ _ _ _ e.natAbs hD hd (by omega) (by omega), hv]
          congr 2
          omega
        · cases hx
  · subst hx
    unfold spell
    have hb := body_whole g d (101 :: Lib.itoa e) hd (stop_e e) (fun r h => by injection h with h _; exact absurd h (by decide))
    rw [restL_e g d [] e (by simp [hne])] at hb
    refine key _ hb rfl (head_app _ _ (head_dig d hd hne)) ?_
    dsimp only
    rw [List.append_nil]
    congr 1
    simp
  · unfold lastsL at hx
    split at hx
    · rename_i h
      rw [List.mem_singleton] at hx
      subst hx
      have hb := body_part g (d.take 1) (d.drop 1) (101 :: Lib.itoa (e + ((d.length : Int) - 1))) (all_take _ _ hd) (all_drop _ _ hd) (by intro z; have := congrArg List.length z; rw [List.length_drop] at this; simp at this; omega) (stop_e _)
      rw [restL_e g _ _ _ (by rw [List.take_append_drop]; exact hne)] at hb
      have hx2 : d.take 1 ++ 46 :: d.drop 1 ++ 101 :: Lib.itoa (e + ((d.length : Int) - 1)) = d.take 1 ++ 46 :: (d.drop 1 ++ 101 :: Lib.itoa (e + ((d.length : Int) - 1))) := by simp
      rw [hx2] at key ⊢
      refine key _ hb rfl (head_app _ _ (head_dig _ (all_take _ _ hd) (by intro z; have := congrArg List.length z; rw [List.length_take, List.length_nil] at this; omega))) ?_
      dsimp only
      rw [List.take_append_drop, List.length_drop]
      congr 1
      omega
    · cases hx
theorem nought_back (g : Bool) : readV (if g = true then 45 :: [48] else [48]) = (g, mk [], mk [], true) := by
  have hb := body_whole g [48] [] rfl (fun c r h => by cases h) (fun r h => by cases h)
  rw [List.append_nil, restL_nil g _ [] (by simp)] at hb
  rw [read_of g [48] _ hb rfl ⟨48, [], rfl, by decide⟩]
  rfl
theorem spells_back (g : Bool) (d e : List UInt8) (h : rightN d e = true) (x : List UInt8) (hx : x ∈ spellsL g d (toI e)) : readV x = (g, mk d, mk e, true) := by
  unfold spellsL at hx
  rw [List.mem_map] at hx
  obtain ⟨y, hy, rfl⟩ := hx
  by_cases h0 : d = []
  · subst h0
    rw [if_pos rfl, List.mem_singleton] at hy
    subst hy
    have he : e = [] := by
      unfold rightN at h
      rw [if_pos rfl] at h
      simpa using h
    rw [nought_back, he]
  · rw [if_neg h0] at hy
    obtain ⟨h1, h2, h3, h4⟩ := rightN_spec d e h h0
    rw [plain_back g d (toI e) h1 h0 h2 h3 y hy, S_mk, right_itoa e h4]
theorem plainL_short (d : List UInt8) (e : Int) (hd : d.length ≤ 200) (he : (S e).size ≤ 1000) : ∀ x ∈ plainL d e, x.length ≤ 4000 := by
  intro x hx
  have hsum : (S (e + ((d.length : Int) - 1))).size ≤ 1010 := by
    rw [S_size] at he
    have f1 := fits_of (Lib.itoa e) (itoa_right e).1
    rw [(itoa_right e).2] at f1
    have h6 : (10 : Nat) ^ 6 = 1000000 := by decide
    have f2 : Fits ((d.length : Int) - 1) 6 := by unfold Fits; omega
    have f3 := (f1.mono (n := (Lib.itoa e).length + 6) (by omega)).add (f2.mono (n := (Lib.itoa e).length + 6) (by omega))
    have := S_size_le _ _ f3 (by omega)
    omega
  unfold plainL at hx
  rw [S_size] at he hsum
  rcases List.mem_append.1 hx with hx | hx
  · rcases List.mem_append.1 hx with hx | hx
    · unfold firstsL at hx
      split at hx
      · rename_i h; simp only [List.mem_singleton] at hx; subst hx; simp; omega
      · split at hx
        · simp only [List.mem_singleton] at hx; subst hx; simp; omega
        · split at hx
          · simp only [List.mem_singleton] at hx; subst hx; simp; omega
          · simp at hx
    · simp only [List.mem_singleton] at hx; subst hx; unfold spell; simp; omega
  · unfold lastsL at hx
    split at hx
    · simp only [List.mem_singleton] at hx; subst hx
      simp; omega
    · simp at hx
end Go.Proofs.YthimiidnbnlemaaGreatDoorD
