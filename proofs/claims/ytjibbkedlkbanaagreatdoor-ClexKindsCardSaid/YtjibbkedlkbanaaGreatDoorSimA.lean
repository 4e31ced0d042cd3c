/- AN ABSTRACT MACHINE FOR THE PROGRAM'S CODE: values without addresses of memory, a heap of small blocks, one order of operations. Plain definitions that compute. -/
import Derived.Calls
import Derived.Below
import Derived.Orders
set_option linter.unusedVariables false
namespace Go.Proofs.YtjibbkedlkbanaaGreatDoorSim

/-- Values. Strings are lists of bytes; a slice bears its block, the first cell, its length, the size of an element in cells, and its capacity where it is known. -/
inductive AV where
  | bool (b : Bool)
  | int (k : IntKind) (n : Int)
  | str (s : List Nat)
  | ptr (b o : Nat)
  | nilp
  | slice (b o len sz : Nat) (cap : Option Nat)
  | nils
  | func (f : FuncId)
  | nilf
  | nili
  | iface (t : TypeId) (v : AV)
  | agg (vs : List AV)
  | tup (vs : List AV)
  deriving Inhabited

def AV.und : AV := .tup []

def AV.flat : AV → Bool
  | .agg _ | .tup _ => false
  | _ => true

def AV.cells : AV → List AV
  | .agg vs => vs
  | v => [v]

/-- A table by numbers. -/
inductive PT (α : Type) where
  | lf
  | nd (v : Option α) (l r : PT α)

def PT.get {α : Type} : PT α → Nat → Option α
  | .lf, _ => none
  | .nd v l r, n => cond (Nat.beq n 0) v (cond (Nat.beq (Nat.mod n 2) 1) (l.get (Nat.div n 2)) (r.get (Nat.sub (Nat.div n 2) 1)))

def PT.set {α : Type} : Nat → PT α → Nat → Option α → Option (PT α)
  | 0, _, _, _ => none
  | f + 1, .lf, n, x =>
    cond (Nat.beq n 0) (some (.nd x .lf .lf))
      (cond (Nat.beq (Nat.mod n 2) 1)
        (match PT.set f .lf (Nat.div n 2) x with | some l => some (.nd none l .lf) | none => none)
        (match PT.set f .lf (Nat.sub (Nat.div n 2) 1) x with | some r => some (.nd none .lf r) | none => none))
  | f + 1, .nd v l r, n, x =>
    cond (Nat.beq n 0) (some (.nd x l r))
      (cond (Nat.beq (Nat.mod n 2) 1)
        (match PT.set f l (Nat.div n 2) x with | some l => some (.nd v l r) | none => none)
        (match PT.set f r (Nat.sub (Nat.div n 2) 1) x with | some r => some (.nd v l r) | none => none))

theorem PT.get_lf {α : Type} (n : Nat) : (PT.lf : PT α).get n = none := by simp [PT.get]
theorem PT.get_nd {α : Type} (v : Option α) (l r : PT α) (n : Nat) :
    (PT.nd v l r).get n = if n = 0 then v else if n % 2 = 1 then l.get (n / 2) else r.get (n / 2 - 1) := by
  rw [PT.get]
  by_cases h : n = 0
  · subst h; rfl
  · have h1 : Nat.beq n 0 = false := by rw [← Bool.not_eq_true, Nat.beq_eq]; exact h
    rw [h1, if_neg h]
    by_cases h2 : n % 2 = 1
    · have : Nat.beq (Nat.mod n 2) 1 = true := by rw [Nat.beq_eq]; exact h2
      rw [this, if_pos h2]; rfl
    · have : Nat.beq (Nat.mod n 2) 1 = false := by
        rw [← Bool.not_eq_true, Nat.beq_eq]; exact h2
      rw [this, if_neg h2]; rfl

theorem PT.get_set {α : Type} (f : Nat) : ∀ (t t' : PT α) (n : Nat) (x : Option α), PT.set f t n x = some t' →
    ∀ m, t'.get m = if m = n then x else t.get m := by
  induction f with
  | zero => intro t t' n x h; simp [PT.set] at h
  | succ f ih =>
    have key : ∀ (v : Option α) (l r t' : PT α) (n : Nat) (x : Option α),
        cond (Nat.beq n 0) (some (PT.nd x l r))
          (cond (Nat.beq (Nat.mod n 2) 1)
            (match PT.set f l (Nat.div n 2) x with | some l => some (PT.nd v l r) | none => none)
            (match PT.set f r (Nat.sub (Nat.div n 2) 1) x with | some r => some (PT.nd v l r) | none => none)) = some t' →
        ∀ m, t'.get m = if m = n then x else (PT.nd v l r).get m := by
      intro v l r t' n x h m
      by_cases h0 : n = 0
      · subst h0
        have : some (PT.nd x l r) = some t' := h
        cases this
        rw [PT.get_nd, PT.get_nd]
        by_cases hm : m = 0
        · rw [if_pos hm, if_pos hm]
        · rw [if_neg hm, if_neg hm, if_neg hm]
      · have h1 : Nat.beq n 0 = false := by rw [← Bool.not_eq_true, Nat.beq_eq]; exact h0
        rw [h1] at h
        by_cases h2 : n % 2 = 1
        · have e : Nat.beq (Nat.mod n 2) 1 = true := by rw [Nat.beq_eq]; exact h2
          rw [e] at h
          replace h : (match PT.set f l (n / 2) x with | some l => some (PT.nd v l r) | none => none) = some t' := h
          cases hs : PT.set f l (n / 2) x with
          | none => rw [hs] at h; cases h
          | some l' =>
            rw [hs] at h
            cases h
            have := ih l l' (n / 2) x hs
            rw [PT.get_nd, PT.get_nd]
            by_cases hm : m = 0
            · rw [if_pos hm, if_pos hm, if_neg (by omega)]
            · rw [if_neg hm, if_neg hm]
              by_cases hm2 : m % 2 = 1
              · rw [if_pos hm2, if_pos hm2, this]
                by_cases hmn : m = n
                · subst hmn; rw [if_pos rfl, if_pos rfl]
                · rw [if_neg hmn, if_neg (by omega)]
              · rw [if_neg hm2, if_neg hm2, if_neg (by intro he; subst he; exact hm2 h2)]
        · have e : Nat.beq (Nat.mod n 2) 1 = false := by
            rw [← Bool.not_eq_true, Nat.beq_eq]; exact h2
          rw [e] at h
          replace h : (match PT.set f r (n / 2 - 1) x with | some r => some (PT.nd v l r) | none => none) = some t' := h
          cases hs : PT.set f r (n / 2 - 1) x with
          | none => rw [hs] at h; cases h
          | some r' =>
            rw [hs] at h
            cases h
            have := ih r r' (n / 2 - 1) x hs
            rw [PT.get_nd, PT.get_nd]
            by_cases hm : m = 0
            · rw [if_pos hm, if_pos hm, if_neg (by omega)]
            · rw [if_neg hm, if_neg hm]
              by_cases hm2 : m % 2 = 1
              · rw [if_pos hm2, if_pos hm2, if_neg (by intro he; subst he; exact h2 hm2)]
              · rw [if_neg hm2, if_neg hm2, this]
                by_cases hmn : m = n
                · subst hmn; rw [if_pos rfl, if_pos rfl]
                · rw [if_neg hmn, if_neg (by omega)]
    intro t t' n x h m
    cases t with
    | lf =>
      rw [PT.set] at h
      rw [key none .lf .lf t' n x h m, PT.get_lf, PT.get_nd, PT.get_lf, PT.get_lf]
      split <;> simp
    | nd v l r =>
      rw [PT.set] at h
      exact key v l r t' n x h m

/-- A block: its cells; may it be written; is what lies behind its end free; the older blocks that may lie in the same place. -/
structure AB where
  cells : List AV
  w : Bool
  t : Bool
  anc : List Nat

structure AH where
  m : PT AB
  nx : Nat

def AH.put (H : AH) (b : Nat) (x : Option AB) : Option AH :=
  match H.m.set 64 b x with
  | some m => some ⟨m, H.nx⟩
  | none => none

def AH.new (H : AH) (x : AB) : Option AH :=
  match H.m.set 64 H.nx (some x) with
  | some m => some ⟨m, Nat.succ H.nx⟩
  | none => none

def AH.drop (H : AH) : List Nat → Option AH
  | [] => some H
  | b :: bs => match H.put b none with | some H => H.drop bs | none => none

def splice (l : List AV) (o : Nat) (vs : List AV) : List AV := l.take o ++ vs ++ l.drop (o + vs.length)

/-- Cells are written: what may lie in the same place is lost. -/
def AH.write (H : AH) (b o : Nat) (vs : List AV) : Option AH :=
  match H.m.get b with
  | some ab =>
    match ab.w && Nat.ble (o + vs.length) ab.cells.length && vs.all AV.flat with
    | true =>
      match H.drop ab.anc with
      | some H => H.put b (some ⟨splice ab.cells o vs, true, ab.t, []⟩)
      | none => none
    | false => none
  | none => none

def AH.read (H : AH) (b o n : Nat) : Option (List AV) :=
  match H.m.get b with
  | some ab => match Nat.ble (o + n) ab.cells.length with
    | true => some ((ab.cells.drop o).take n)
    | false => none
  | none => none

end Go.Proofs.YtjibbkedlkbanaaGreatDoorSim
