/- PLAIN LAWS of number: two numbers that are read are one just if they are worth the same. -/
import Derived.Test.YthimiidnbnlemaaGreatDoorNumberTellsPNumA
set_option linter.unusedVariables false
set_option linter.unusedSimpArgs false
namespace Go.Proofs.YthimiidnbnlemaaGreatDoorD
open Go.RowKit Go.Proofs.YthimiidnbnlemaaGreatDoorX Go.Proofs.YthimiidnbnlemaaGreatDoor.P Go.Proofs.YthimiidnbnlemaaGreatDoorW.PrintWords Go.Proofs.YthimiidnbnlemaaGreatDoorW.PrintLast Go.Proofs.YthimiidnbnlemaaGreatDoorW.PrintMore
def normN (d : List UInt8) (x : Int) : ByteArray × ByteArray :=
  if d.dropWhile (· == 48) = [] then (mk [], mk []) else
    (mk (((d.dropWhile (· == 48)).reverse.dropWhile (· == 48)).reverse), S (x + (((d.dropWhile (· == 48)).length : Int) - (((d.dropWhile (· == 48)).reverse.dropWhile (· == 48)).reverse.length : Int))))
theorem numP_norm (p : Pieces) : numP p = (p.neg, normN (p.whole ++ p.part) (p.exp - (p.part.length : Int))) := by
  unfold numP normN
  dsimp only
  split
  · rfl
  · refine Prod.ext rfl (Prod.ext rfl ?_)
    show S _ = S _
    congr 1
    omega
theorem val_noughts (s : List UInt8) (n : Nat) : val (s ++ List.replicate n 48) = val s * 10 ^ n := by
  induction n with
  | zero => simp
  | succ n ih =>
    rw [List.replicate_succ', ← List.append_assoc, val_snoc, ih]
    have : dv 48 = 0 := rfl
    have e : val s * 10 ^ (n + 1) = (val s * 10 ^ n) * 10 := by rw [Nat.pow_succ, ← Nat.mul_assoc]
    rw [e]
    omega
theorem val_ahead (n : Nat) (s : List UInt8) : val (List.replicate n 48 ++ s) = val s := by
  induction n with
  | zero => simp
  | succ n ih =>
    rw [List.replicate_succ, List.cons_append, val_cons, ih]
    have : dv 48 = 0 := rfl
    rw [this]; omega
theorem trim_eq (e : List UInt8) : ∃ n, e = (e.reverse.dropWhile (· == 48)).reverse ++ List.replicate n 48 := by
  have h := List.takeWhile_append_dropWhile (p := fun c : UInt8 => c == 48) (l := e.reverse)
  obtain ⟨n, h2⟩ : ∃ n, e.reverse.takeWhile (fun c : UInt8 => c == 48) = List.replicate n 48 := by
    refine ⟨_, List.eq_replicate_iff.2 ⟨rfl, fun x hx => ?_⟩⟩
    have : ∀ (l : List UInt8), x ∈ l.takeWhile (fun c : UInt8 => c == 48) → x = 48 := by
      intro l
      induction l with
      | nil => simp
      | cons a l ih =>
        rw [List.takeWhile_cons]
        split
        · rename_i ha
          intro hm
          cases hm with
          | head => simpa using ha
          | tail _ hm => exact ih hm
        · intro hm; cases hm
    exact this _ hx
  refine ⟨n, ?_⟩
  rw [h2] at h
  have h3 := congrArg List.reverse h
  rw [List.reverse_append, List.reverse_reverse, List.reverse_replicate] at h3
  exact h3.symm
end Go.Proofs.YthimiidnbnlemaaGreatDoorD
