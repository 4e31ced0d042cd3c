/- THE MACHINE'S TABLES, made of the program. -/
import Derived.Test.YtofpjpeededndaaGreatDoorSimM
set_option linter.unusedVariables false
namespace Go.Proofs.YtofpjpeededndaaGreatDoorSim
noncomputable section

def evens {α : Type} : List α → List α
  | [] => []
  | [x] => [x]
  | x :: _ :: l => x :: evens l
def odds {α : Type} : List α → List α
  | [] => []
  | [_] => []
  | _ :: y :: l => y :: odds l

theorem evens_get {α : Type} : ∀ (l : List α) (i : Nat), (evens l)[i]? = l[2 * i]?
  | [], i => by simp [evens]
  | [x], 0 => by simp [evens]
  | [x], i + 1 => by simp [evens]
  | x :: y :: l, 0 => by simp [evens]
  | x :: y :: l, i + 1 => by
    simp only [evens, List.getElem?_cons_succ]
    rw [evens_get l i, show 2 * (i + 1) = 2 * i + 1 + 1 by omega]
    simp
theorem odds_get {α : Type} : ∀ (l : List α) (i : Nat), (odds l)[i]? = l[2 * i + 1]?
  | [], i => by simp [odds]
  | [x], i => by simp [odds]
  | x :: y :: l, 0 => by simp [odds]
  | x :: y :: l, i + 1 => by
    simp only [odds, List.getElem?_cons_succ]
    rw [odds_get l i, show 2 * (i + 1) = 2 * i + 1 + 1 by omega]
    simp

def PT.build {α : Type} : Nat → List α → PT α
  | 0, _ => .lf
  | _ + 1, [] => .lf
  | n + 1, x :: l => .nd (some x) (PT.build n (evens l)) (PT.build n (odds l))

theorem PT.build_get {α : Type} : ∀ (n : Nat) (l : List α) (i : Nat) (x : α), (PT.build n l).get i = some x → l[i]? = some x
  | 0, l, i, x, h => by simp [PT.build, PT.get_lf] at h
  | n + 1, [], i, x, h => by simp [PT.build, PT.get_lf] at h
  | n + 1, y :: l, i, x, h => by
    rw [PT.build, PT.get_nd] at h
    by_cases h0 : i = 0
    · subst h0; simpa using h
    · rw [if_neg h0] at h
      by_cases h1 : i % 2 = 1
      · rw [if_pos h1] at h
        have := PT.build_get n _ _ _ h
        rw [evens_get] at this
        rw [show i = 2 * (i / 2) + 1 by omega, List.getElem?_cons_succ]
        exact this
      · rw [if_neg h1] at h
        have := PT.build_get n _ _ _ h
        rw [odds_get] at this
        rw [show i = 2 * (i / 2 - 1) + 1 + 1 by omega, List.getElem?_cons_succ]
        exact this

def tiOf (P : Program) (t : TypeId) : Option TI :=
  match P.info? t, P.underlying t with
  | some i, some d => some ⟨d, i.size, i.bytes, match i.zero with | some z => ofValue z | none => none⟩
  | _, _ => none

def fnOf (x : Option Func) : Option Func :=
  match x with
  | some f => match f.body, decide (f.name = "runtime.NumGoroutine") with
    | some _, false => some f
    | _, _ => none
  | none => none

def plainOf (P : Program) (t : TypeId) : Bool := !P.stoodInHeld t && !P.eqGuardType P.depth t

/-- The tables of a program. -/
structure Tabs (P : Program) where
  ti : PT (Option TI)
  fn : PT Func
  plain : PT Bool
  hti : ∃ n m, ti = PT.build n ((List.range m).map (tiOf P))
  hfn : ∃ n, fn = PT.build n P.funcs.toList
  hplain : ∃ n m, plain = PT.build n ((List.range m).map (plainOf P))

def envOf (ti : PT (Option TI)) (fn : PT Func) (plain : PT Bool) (glob : Nat → Bool) (prim : FuncId → Option (List AV → AH → Option (AV × AH))) (ext : FuncId → Bool) : Env where
  ext := ext
  ti := fun t => match ti.get t with | some x => x | none => none
  glob := glob
  fn := fun f => fnOf (fn.get f)
  prim := prim
  plain := fun t => match plain.get t with | some b => b | none => false

theorem fnOf_some {x : Option Func} {f : Func} (h : fnOf x = some f) : x = some f ∧ (∃ c, f.body = some c) ∧ f.name ≠ "runtime.NumGoroutine" := by
  unfold fnOf at h
  split at h
  · split at h
    · rename_i c hb hd
      cases h
      exact ⟨rfl, ⟨c, hb⟩, by simpa using hd⟩
    · cases h
  · cases h

theorem envOf_ok {P : Program} {ti : PT (Option TI)} {fn : PT Func} {plain : PT Bool} {glob : Nat → Bool} {prim : FuncId → Option (List AV → AH → Option (AV × AH))} {ext : FuncId → Bool}
    (hti : ∃ n m, ti = PT.build n ((List.range m).map (tiOf P))) (hfn : ∃ n, fn = PT.build n P.funcs.toList) (hplain : ∃ n m, plain = PT.build n ((List.range m).map (plainOf P)))
    (hext : ∀ f, ext f = true → ExtSame P f) : EnvOK P (envOf ti fn plain glob prim ext) where
  ext := hext
  ti := by
    intro t x h
    obtain ⟨n, m, rfl⟩ := hti
    simp only [envOf] at h
    split at h
    · rename_i y hy
      subst h
      have := PT.build_get _ _ _ _ hy
      rw [List.getElem?_map] at this
      cases hr : (List.range m)[t]? with
      | none => rw [hr] at this; cases this
      | some k =>
        rw [hr] at this
        have hk : k = t := by
          have := List.getElem?_eq_some_iff.1 hr
          obtain ⟨_, e⟩ := this
          simpa using e.symm
        subst hk
        simp only [Option.map_some, Option.some.injEq] at this
        unfold tiOf at this
        split at this
        · rename_i i d hi hd
          cases this
          refine ⟨hd, i, hi, rfl, rfl, fun z hz => ?_⟩
          simp only at hz
          cases hzz : i.zero with
          | none => rw [hzz] at hz; cases hz
          | some u => rw [hzz] at hz; exact ⟨u, rfl, hz⟩
        · cases this
    · cases h
  fn := by
    intro f x h
    obtain ⟨n, rfl⟩ := hfn
    have := PT.build_get _ _ _ _ (fnOf_some h).1
    rw [Array.getElem?_toList] at this
    exact this
  fnB := fun f x h => (fnOf_some h).2
  plain := by
    intro t h
    obtain ⟨n, m, rfl⟩ := hplain
    simp only [envOf] at h
    split at h
    · rename_i y hy
      subst h
      have := PT.build_get _ _ _ _ hy
      rw [List.getElem?_map] at this
      cases hr : (List.range m)[t]? with
      | none => rw [hr] at this; cases this
      | some k =>
        rw [hr] at this
        have hk : k = t := by
          have := List.getElem?_eq_some_iff.1 hr
          obtain ⟨_, e⟩ := this
          simpa using e.symm
        subst hk
        simp only [Option.map_some, Option.some.injEq, plainOf, Bool.and_eq_true, Bool.not_eq_true'] at this
        exact this
    · cases h

end
end Go.Proofs.YtofpjpeededndaaGreatDoorSim
