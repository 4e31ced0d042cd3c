/- NumberTells: the program's number and the reference's are one, whatever text is read and whatever number is spelled. -/
import Derived.Test.YthimiidnbnlemaaGreatDoorNumberTellsPNumT
import Derived.Test.YthimiidnbnlemaaGreatDoorNumberTellsPx23
set_option linter.unusedVariables false
set_option linter.unusedSimpArgs false
namespace Go.Proofs.YthimiidnbnlemaaGreatDoor.Pure
open Go.RowKit Go.Proofs.YthimiidnbnlemaaGreatDoorX Go.Proofs.YthimiidnbnlemaaGreatDoorD Go.Proofs.YthimiidnbnlemaaGreatDoor.P Go.Proofs.YthimiidnbnlemaaGreatDoorW.PrintWords Go.Proofs.YthimiidnbnlemaaGreatDoorW.PrintLast Go.Proofs.YthimiidnbnlemaaGreatDoorW.PrintMore
theorem NumberTells : l5_NumberTells.Pure := by
  intro s g d e hs hd he
  obtain ⟨l, rfl⟩ : ∃ l, s = mk l := ⟨_, mk_of s⟩
  obtain ⟨d, rfl⟩ : ∃ l, d = mk l := ⟨_, mk_of d⟩
  obtain ⟨e, rfl⟩ : ∃ l, e = mk l := ⟨_, mk_of e⟩
  rw [mk_size] at hs hd he
  refine ⟨3100000 + 1, ?_⟩
  unfold l5_NumberTells.f
  rw [alive5_f _ (by omega), obi, if_pos rfl, mk_size, mk_size, mk_size]
  have hj : l5_NumberTells.j0 (3100000 + 1) (mk l) true true g (mk d) (mk e) = some true := by
    rw [l5_NumberTells.j0, if_pos rfl]
  by_cases h1 : (l.length : Int) > 300
  · rw [if_pos h1, hj]
  rw [if_neg h1]
  by_cases h2 : (d.length : Int) > 300
  · rw [if_pos h2, hj]
  rw [if_neg h2]
  by_cases h3 : (e.length : Int) > 300
  · rw [decide_eq_true h3, hj]
  rw [decide_eq_false h3, l5_NumberTells.j0, if_neg (by decide), read_f l (by omega) 3100000 (by omega), obi, readnum_f l (by omega) 3100000 (by omega), obi]
  rw [if_pos (by simp), if_pos (by simp), right_n g d e (by omega) 3100000 (by omega), obi, rright_n g d e (by omega) (by omega) 3100000 (by omega), obi, if_pos (by simp)]
  rw [plains_f g d e (by omega) (by omega) 3100000 (by omega), obi, rplain_f g d e (by omega) (by omega) 3100000 (by omega), obi]
  have hl := spellsL_len g d (toI e)
  have hb : (if rightN d e = true then (spellsL g d (toI e)).map mk else []).length ≤ 100 := by
    split
    · rw [List.length_map]; omega
    · simp
  rw [same_f _ hb 3100000 (by omega), obi, if_pos rfl, short_f g d e (by omega) (by omega) 3100000 (by omega), obi, obi]
  have hl3 : (if rightN d e = true then spellsL g d (toI e) else []).length ≤ 100 := by
    split
    · omega
    · simp
  have hm : (if rightN d e = true then (spellsL g d (toI e)).map mk else []) = (if rightN d e = true then spellsL g d (toI e) else []).map mk := by split <;> rfl
  rw [hm, rshortest_f _ hl3 3100000 (by omega), obi]
  simp
end Go.Proofs.YthimiidnbnlemaaGreatDoor.Pure
