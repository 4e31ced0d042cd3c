/- PLAIN LAWS of number: each spelling of a number is read as that number. -/
import Derived.Test.YthimiidnbnlemaaDoorNumberShiftPNumV
set_option linter.unusedVariables false
set_option linter.unusedSimpArgs false
namespace Go.Proofs.YthimiidnbnlemaaDoorD
open Go.RowKit Go.Proofs.YthimiidnbnlemaaDoorX Go.Proofs.YthimiidnbnlemaaDoor.P Go.Proofs.YthimiidnbnlemaaDoorW.PrintWords Go.Proofs.YthimiidnbnlemaaDoorW.PrintLast Go.Proofs.YthimiidnbnlemaaDoorW.PrintMore
def signM (neg : Bool) : List UInt8 := if neg = true then [45] else []
theorem signM_app (neg : Bool) (x : List UInt8) : signM neg ++ x = if neg = true then 45 :: x else x := by cases neg <;> rfl
theorem signM_len (neg : Bool) : (signM neg).length ≤ 1 := by cases neg <;> simp [signM]
theorem rep_dig (n : Nat) : (List.replicate n (48 : UInt8)).all isDig = true := by
  rw [List.all_eq_true]
  intro x hx
  rw [List.eq_of_mem_replicate hx]
  decide
theorem restL_c (g : Bool) (w p : List UInt8) (c : UInt8) (hc : c = 101 ∨ c = 69) (n : Int) (h : w ++ p ≠ []) : restL g w p (c :: Lib.itoa n) = some ⟨g, w, p, n⟩ := by
  unfold restL
  rw [powL_itoa c hc n]
  dsimp only
  rw [if_neg h]
theorem restL_e (g : Bool) (w p : List UInt8) (n : Int) (h : w ++ p ≠ []) : restL g w p (101 :: Lib.itoa n) = some ⟨g, w, p, n⟩ := by
  unfold restL
  rw [powL_itoa 101 (Or.inl rfl) n]
  dsimp only
  rw [if_neg h]
theorem stop_e (n : Int) : ∀ c r, (101 : UInt8) :: Lib.itoa n = c :: r → isDig c = false := fun c r h => by injection h with h _; rw [← h]; decide
theorem body_whole (g : Bool) (D t : List UInt8) (hD : D.all isDig = true) (ht : ∀ c r, t = c :: r → isDig c = false) (h46 : ∀ r, t ≠ 46 :: r) : bodyL g (D ++ t) = restL g D [] t := by
  unfold bodyL
  rw [run_stop D t hD ht]
  dsimp only
  split
  · rename_i u
    exact absurd rfl (h46 u)
  · rfl
theorem body_part (g : Bool) (w p t : List UInt8) (hw : w.all isDig = true) (hp : p.all isDig = true) (hn : p ≠ []) (ht : ∀ c r, t = c :: r → isDig c = false) : bodyL g (w ++ 46 :: (p ++ t)) = restL g w p t := by
  unfold bodyL
  rw [run_stop w (46 :: (p ++ t)) hw (fun c r h => by injection h with h _; rw [← h]; decide)]
  show (if (runL (p ++ t)).1 = [] then none else restL g w (runL (p ++ t)).1 (runL (p ++ t)).2) = _
  rw [run_stop p t hp ht]
  show (if p = [] then none else restL g w p t) = _
  rw [if_neg hn]
theorem read_of (g : Bool) (x : List UInt8) (p : Pieces) (h : bodyL g x = some p) (hg : p.neg = g) (hc : ∃ c r, x = c :: r ∧ (isDig c = true ∨ c = 46)) :
    readV (if g = true then 45 :: x else x) = (g, (normN (p.whole ++ p.part) (p.exp - (p.part.length : Int))).1, (normN (p.whole ++ p.part) (p.exp - (p.part.length : Int))).2, true) := by
  have hs : signL (if g = true then 45 :: x else x) = (g, x) := by
    cases g with
    | true => rfl
    | false =>
      obtain ⟨c, r, e, h⟩ := hc
      exact sign_none x c r e h
  have hr : readL (if g = true then 45 :: x else x) = some p := by
    rw [readL_body, hs]
    exact h
  rw [readV_of _ p hr, hg]
theorem head_dig (d : List UInt8) (h : d.all isDig = true) (hne : d ≠ []) : ∃ c r, d = c :: r ∧ (isDig c = true ∨ c = 46) := by
  cases d with
  | nil => exact absurd rfl hne
  | cons c r =>
    simp only [List.all_cons, Bool.and_eq_true] at h
    exact ⟨c, r, rfl, Or.inl h.1⟩
theorem head_app (a b : List UInt8) (h : ∃ c r, a = c :: r ∧ (isDig c = true ∨ c = 46)) : ∃ c r, a ++ b = c :: r ∧ (isDig c = true ∨ c = 46) := by
  obtain ⟨c, r, e, h⟩ := h
  exact ⟨c, r ++ b, by rw [e]; rfl, h⟩
end Go.Proofs.YthimiidnbnlemaaDoorD
