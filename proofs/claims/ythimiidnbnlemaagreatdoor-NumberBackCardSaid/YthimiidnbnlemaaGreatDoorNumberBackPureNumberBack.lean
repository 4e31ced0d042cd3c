/- NumberBack: each spelling of a number is read as it, and the shortest is one of them, none shorter. -/
import Derived.Test.YthimiidnbnlemaaGreatDoorNumberBackPNumT
import Derived.Test.YthimiidnbnlemaaGreatDoorNumberBackPNumB
import Derived.Test.YthimiidnbnlemaaGreatDoorNumberBackPNumL
import Derived.Test.YthimiidnbnlemaaGreatDoorNumberBackPx24
set_option linter.unusedVariables false
set_option linter.unusedSimpArgs false
namespace Go.Proofs.YthimiidnbnlemaaGreatDoor.Pure
open Go.RowKit Go.Proofs.YthimiidnbnlemaaGreatDoorX Go.Proofs.YthimiidnbnlemaaGreatDoorD Go.Proofs.YthimiidnbnlemaaGreatDoor.P Go.Proofs.YthimiidnbnlemaaGreatDoorW.PrintWords Go.Proofs.YthimiidnbnlemaaGreatDoorW.PrintLast Go.Proofs.YthimiidnbnlemaaGreatDoorW.PrintMore
theorem back_go (g : Bool) (d e : List UInt8) (xs : List (List UInt8)) (s : List UInt8) (hx : xs.length ≤ 100) (hr : ∀ x ∈ xs, readV x = (g, mk d, mk e, true)) (hs : ∀ x ∈ xs, s.length ≤ x.length) (hz : ∀ x ∈ xs, x.length ≤ 5000) :
    ∀ (n k i : Nat) (b : Bool), n + 2000000 < k → xs.length < i + n → i ≤ xs.length → (b = true ∨ s ∈ xs.drop i) →
    abridgerlaw5_NumberBack.l0 k (xs.map mk) (mk s) b (i : Int) g (mk d) (mk e) = some true := by
  intro n
  induction n with
  | zero => intro k i b hk hd hi; omega
  | succ n ih =>
    intro k i b hk hd hi hb
    obtain ⟨k, rfl⟩ : ∃ m, k = m + 1 := ⟨k - 1, by omega⟩
    rw [abridgerlaw5_NumberBack.l0, List.length_map]
    by_cases h : i < xs.length
    · have hm := List.getElem_mem h
      rw [if_pos (by omega), if_pos (by omega), rdOf_at _ i (by rw [List.length_map]; omega), List.getElem_map, read_f _ (hz _ hm) k (by omega), obi, hr _ hm, if_pos rfl, if_neg (by simp), mk_size, mk_size, if_neg (by have := hs _ hm; omega), w64 (by omega) (by omega)]
      rw [List.drop_eq_getElem_cons h] at hb
      cases b with
      | true => rw [if_pos rfl]; exact ih k (i + 1) true (by omega) (by omega) (by omega) (Or.inl rfl)
      | false =>
        rw [if_neg (by decide), mk_toList, mk_toList]
        refine ih k (i + 1) _ (by omega) (by omega) (by omega) ?_
        rcases hb with hb | hb
        · cases hb
        · cases hb with
          | head => exact Or.inl (by simp)
          | tail _ h => exact Or.inr h
    · rw [if_neg (by omega)]
      rw [List.drop_eq_nil_of_le (by omega)] at hb
      rcases hb with hb | hb
      · rw [hb]
      · cases hb
theorem NumberBack : abridgerlaw5_NumberBack.Pure := by
  intro g d e hd he
  obtain ⟨d, rfl⟩ : ∃ l, d = mk l := ⟨_, mk_of d⟩
  obtain ⟨e, rfl⟩ : ∃ l, e = mk l := ⟨_, mk_of e⟩
  rw [mk_size] at hd he
  refine ⟨3100000 + 1, ?_⟩
  unfold abridgerlaw5_NumberBack.f
  rw [alive5_f _ (by omega), obi, if_pos rfl, mk_size, mk_size]
  have hj : abridgerlaw5_NumberBack.j0 (3100000 + 1) true true g (mk d) (mk e) = some true := by
    rw [abridgerlaw5_NumberBack.j0, if_pos rfl]
  by_cases h2 : (d.length : Int) > 200
  · rw [if_pos h2, hj]
  rw [if_neg h2]
  by_cases h3 : (e.length : Int) > 100
  · rw [if_pos h3, hj]
  rw [if_neg h3, rright_n g d e (by omega) (by omega) _ (by omega), obi]
  cases hr : rightN d e with
  | false => exact hj
  | true =>
    show abridgerlaw5_NumberBack.j0 (3100000 + 1) true false g (mk d) (mk e) = some true
    rw [abridgerlaw5_NumberBack.j0, if_neg (by decide), plains_f g d e (by omega) (by omega) 3100000 (by omega), obi, short_f g d e (by omega) (by omega) 3100000 (by omega), obi, hr, if_pos rfl, if_pos rfl]
    have hl := spellsL_len g d (toI e)
    have hne : spellsL g d (toI e) ≠ [] := by intro h; rw [h] at hl; simp at hl
    have hS : (S (toI e)).size ≤ 1000 ∨ d = [] := by
      by_cases h0 : d = []
      · exact Or.inr h0
      · obtain ⟨_, _, _, hre⟩ := rightN_spec d e hr h0
        refine Or.inl ?_
        rw [S_mk, right_itoa e hre, mk_size]
        omega
    have hz : ∀ x ∈ spellsL g d (toI e), x.length ≤ 5000 := by
      intro x hx
      unfold spellsL at hx
      rw [List.mem_map] at hx
      obtain ⟨y, hy, rfl⟩ := hx
      have : y.length ≤ 4000 := by
        rcases hS with hS | h0
        · by_cases h0 : d = []
          · rw [if_pos h0, List.mem_singleton] at hy; rw [hy]; simp
          · rw [if_neg h0] at hy
            exact plainL_short d (toI e) (by omega) hS y hy
        · rw [if_pos h0, List.mem_singleton] at hy; rw [hy]; simp
      split
      · rw [List.length_cons]; omega
      · omega
    exact back_go g d e _ _ (by omega) (spells_back g d e hr) (fun x hx => shortL_le _ x hx) hz ((spellsL g d (toI e)).length + 1) 3100000 0 false (by omega) (by omega) (by omega) (Or.inr (by rw [List.drop_zero]; exact shortL_mem _ hne))
end Go.Proofs.YthimiidnbnlemaaGreatDoor.Pure
