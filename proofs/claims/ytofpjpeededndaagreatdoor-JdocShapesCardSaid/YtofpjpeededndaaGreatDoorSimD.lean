/- REGIONS THAT DRAW THEIR ORDER: when the operations that change memory stand in one order, and what reads memory reads the same wherever it may stand, every order comes to what the first one comes to. -/
import Derived.Test.YtofpjpeededndaaGreatDoorSimG
set_option linter.unusedVariables false
namespace Go.Proofs.YtofpjpeededndaaGreatDoorSim
noncomputable section
open Go.RowKit (Below)

def anyE (e : Edge) : Bool := Region.binds .any e
def maskOf (ms : List Nat) (o : Oper) : Nat := o.after.toList.foldl (fun s e => cond (anyE e) (Nat.lor (Nat.lor s (Nat.pow 2 e.on)) (ms.getD e.on 0)) s) 0
def masks : List Oper → List Nat → List Nat
  | [], ms => ms
  | o :: os, ms => masks os (ms ++ [maskOf ms o])

def opL (ops : Array Oper) (i : Nat) : Oper := ops.toList.getD i default
def rch (M : List Nat) (i j : Nat) : Bool := (M.getD i 0).testBit j
def cmp (M : List Nat) (i j : Nat) : Bool := rch M i j || rch M j i

def looksDst (ops : Array Oper) (o o' : Oper) : Bool := match o'.dst with | some d => (o.looksAt ops).any (fun t => Nat.beq t d) | none => false
def sameDst (o o' : Oper) : Bool := match o.dst, o'.dst with | some d, some d' => Nat.beq d d' | _, _ => false

/-- A new variable that hangs on nothing. -/
def isFree (o : Oper) : Bool :=
  match o.op, o.guard, o.dst with
  | .alloc _, none, some _ => o.after.toList.all fun e => !anyE e
  | _, _, _ => false
def effN (eff : Oper → Bool) (o : Oper) : Bool := eff o && !isFree o

/-- No operation waits for ever. -/
def marks1 (md : Region.Mode) (A : List Bool) (x : Oper × Nat) : Bool := A.getD x.2 false || x.1.after.toList.all fun e => !Region.binds md e || A.getD e.on false
def marksN (md : Region.Mode) (ops : List Oper) : Nat → List Bool
  | 0 => []
  | n + 1 => (ops.zipIdx).map (marks1 md (marksN md ops n))
def acyc (md : Region.Mode) (ops : List Oper) : Bool := (marksN md ops ops.length).all id && Nat.beq (marksN md ops ops.length).length ops.length

section
variable (eff reads : Oper → Bool)
def drawRow (ops : Array Oper) (M : List Nat) (i : Nat) : Bool :=
  (opL ops i).after.toList.all (fun e => !anyE e || Nat.blt e.on i) &&
  (List.range ops.toList.length).all fun j => Nat.beq i j ||
    (!sameDst (opL ops i) (opL ops j) && (!looksDst ops (opL ops i) (opL ops j) || cmp M i j) && (!(effN eff (opL ops i) && effN eff (opL ops j)) || cmp M i j))
def drawOK (ops : Array Oper) (M : List Nat) : Bool := (List.range ops.toList.length).all (drawRow eff ops M)
def flagged (ops : Array Oper) (M : List Nat) (i : Nat) : Bool :=
  reads (opL ops i) && (List.range ops.toList.length).any fun j => effN eff (opL ops j) && !cmp M i j
def flagOK (ops : Array Oper) (M : List Nat) (i : Nat) : Bool :=
  (List.range ops.toList.length).all fun j => !looksDst ops (opL ops i) (opL ops j) || rch M i j
def flags (ops : Array Oper) : Option (List Nat × List Nat) :=
  let M := masks ops.toList []
  match drawOK eff ops M && (List.range ops.toList.length).all (fun i => !flagged eff reads ops M i || flagOK ops M i) && acyc .any ops.toList && acyc .text ops.toList && acyc .gc ops.toList with
  | true => some (M, (List.range ops.toList.length).filter (flagged eff reads ops M))
  | false => none
/-- The same, row by row (Lean's kernel runs it). -/
structure Row where
  i : Nat
  o : Oper
  m : Nat
def tb (m n : Nat) : Bool := Nat.beq (Nat.mod (Nat.div m (Nat.pow 2 n)) 2) 1
theorem tb_eq (m n : Nat) : tb m n = m.testBit n := by
  rw [Nat.testBit_eq_decide_div_mod_eq, Bool.eq_iff_iff, decide_eq_true_eq]
  unfold tb
  rw [Nat.beq_eq]
  exact Iff.rfl
def cmp2 (x y : Row) : Bool := tb x.m y.i || tb y.m x.i
def rowsOf (ops : Array Oper) (M : List Nat) : List Row := (List.range ops.toList.length).map fun i => ⟨i, opL ops i, M.getD i 0⟩
def drawRow2 (ops : Array Oper) (R : List Row) (x : Row) : Bool :=
  x.o.after.toList.all (fun e => !anyE e || Nat.blt e.on x.i) &&
  R.all fun y => Nat.beq x.i y.i ||
    (!sameDst x.o y.o && (!looksDst ops x.o y.o || cmp2 x y) && (!(effN eff x.o && effN eff y.o) || cmp2 x y))
def flagged2 (R : List Row) (x : Row) : Bool := reads x.o && R.any fun y => effN eff y.o && !cmp2 x y
def flagOK2 (ops : Array Oper) (R : List Row) (x : Row) : Bool := R.all fun y => !looksDst ops x.o y.o || tb x.m y.i
def flags3 (ops : Array Oper) (M : List Nat) (R : List Row) : Option (List Nat × List Nat) :=
  match R.all (drawRow2 eff ops R) && R.all (fun x => !flagged2 eff reads R x || flagOK2 ops R x) && acyc .any ops.toList && acyc .text ops.toList && acyc .gc ops.toList with
  | true => some (M, (R.filter (flagged2 eff reads R)).map (·.i))
  | false => none
def flags2 (ops : Array Oper) : Option (List Nat × List Nat) := flags3 eff reads ops (masks ops.toList []) (rowsOf ops (masks ops.toList []))
theorem flags2_eq (ops : Array Oper) : flags2 eff reads ops = flags eff reads ops := by
  unfold flags2 flags flags3
  generalize masks ops.toList [] = M
  have e1 : (rowsOf ops M).all (drawRow2 eff ops (rowsOf ops M)) = drawOK eff ops M := by
    unfold drawOK
    rw [rowsOf, List.all_map]
    congr 1
    funext i
    simp only [Function.comp, drawRow2, drawRow, List.all_map, cmp2, cmp, rch, tb_eq]
    rfl
  have e2 : ∀ i, flagged2 eff reads (rowsOf ops M) ⟨i, opL ops i, M.getD i 0⟩ = flagged eff reads ops M i := by
    intro i
    simp only [flagged2, flagged, rowsOf, List.any_map, cmp2, cmp, rch, tb_eq]
    rfl
  have e3 : ∀ i, flagOK2 ops (rowsOf ops M) ⟨i, opL ops i, M.getD i 0⟩ = flagOK ops M i := by
    intro i
    simp only [flagOK2, flagOK, rowsOf, List.all_map, rch, tb_eq]
    rfl
  have e4 : (rowsOf ops M).all (fun x => !flagged2 eff reads (rowsOf ops M) x || flagOK2 ops (rowsOf ops M) x) = (List.range ops.toList.length).all (fun i => !flagged eff reads ops M i || flagOK ops M i) := by
    conv => lhs; arg 1; rw [rowsOf]
    rw [List.all_map]
    congr 1
    funext i
    simp only [Function.comp, e2, e3]
  have e5 : ((rowsOf ops M).filter (flagged2 eff reads (rowsOf ops M))).map (·.i) = (List.range ops.toList.length).filter (flagged eff reads ops M) := by
    conv => lhs; arg 2; arg 2; rw [rowsOf]
    rw [List.filter_map, List.map_map]
    have : (fun x : Row => x.i) ∘ (fun i => (⟨i, opL ops i, M.getD i 0⟩ : Row)) = id := rfl
    rw [this, List.map_id]
    congr 1
    funext i
    exact e2 i
  rw [e1, e4, e5]

/-- May an operation stand where the heap is as it is ahead of operation k? -/
def mayAt (ops : Array Oper) (M : List Nat) (i k : Nat) : Bool :=
  (Nat.beq k 0 || effN eff (opL ops (k - 1))) &&
  (List.range ops.toList.length).all fun j => !effN eff (opL ops j) || ((!rch M i j || Nat.blt j k) && (!rch M j i || Nat.ble k j))
def chkAt (X : StepF) (ops : Array Oper) (T : PT AV) (i : Nat) (H : AH) : Bool :=
  match X (look T) H (opL ops i) with
  | some (v, _) => match (opL ops i).dst with
    | some d => AV.beq v (look T d)
    | none => true
  | none => false
def chk (X : StepF) (ops : Array Oper) (M : List Nat) (T : PT AV) (Hs : List AH) (i : Nat) : Bool :=
  !wantedA ops (look T) (opL ops i) ||
  Hs.zipIdx.all fun x => !mayAt eff ops M i x.2 || chkAt X ops T i x.1
def tyEq : Option TypeId → Option TypeId → Bool
  | some a, some b => Nat.beq a b
  | none, none => true
  | _, _ => false
theorem tyEq_eq {a b : Option TypeId} (h : tyEq a b = true) : a = b := by
  cases a <;> cases b <;> simp_all [tyEq]

/-- A new variable is as it was made, wherever it may be made. -/
def freeAt (H0 : AH) (T : PT AV) (o : Oper) (H : AH) : Bool :=
  match o.dst with
  | some d => match look T d with
    | .ptr b _ => match H0.m.get b, H.m.get b with
      | some x, some y => AV.beqs x.cells y.cells && y.w && (match y.anc with | [] => true | _ => false) && (y.t == x.t) && tyEq x.ty y.ty
      | _, _ => false
    | _ => false
  | none => false
def chkFree (ops : Array Oper) (M : List Nat) (H0 : AH) (T : PT AV) (Hs : List AH) (i : Nat) : Bool :=
  !isFree (opL ops i) || Hs.zipIdx.all fun x => !mayAt eff ops M i x.2 || freeAt H0 T (opL ops i) x.1

/-- First the new variables that hang on nothing. -/
def runFree (X : StepF) (n : Nat) (ops : Array Oper) : List Oper → PT AV → AH → Option (PT AV × AH)
  | [], T, H => some (T, H)
  | o :: os, T, H => match isFree o with
    | true => match stepA X n ops T H o with
      | some (T', H') => runFree X n ops os T' H'
      | none => none
    | false => runFree X n ops os T H
/-- Then all else, with the heaps ahead of each operation, and at the end. -/
def runRest (X : StepF) (n : Nat) (ops : Array Oper) : List Oper → PT AV → AH → Option (PT AV × AH × List AH)
  | [], T, H => some (T, H, [H])
  | o :: os, T, H => match isFree o with
    | true => match runRest X n ops os T H with
      | some (T2, H2, l) => some (T2, H2, H :: l)
      | none => none
    | false => match stepA X n ops T H o with
      | some (T', H') => match runRest X n ops os T' H' with
        | some (T2, H2, l) => some (T2, H2, H :: l)
        | none => none
      | none => none
def drawOps (X : StepF) (n : Nat) (ops : Array Oper) (T : PT AV) (H : AH) : Option (PT AV × AH) :=
  match flags2 eff reads ops with
  | some (M, fl) => match runFree X n ops ops.toList T H with
    | some (T1, H1) => match runRest X n ops ops.toList T1 H1 with
      | some (T', H', Hs) => match fl.all (chk eff X ops M T' Hs) && (List.range ops.toList.length).all (chkFree eff ops M H1 T' Hs) with
        | true => some (T', H')
        | false => none
      | none => none
    | none => none
  | none => none
end

/-! ### what comes ahead of what -/
theorem masks_pre : ∀ (os : List Oper) (ms : List Nat), ∃ l, masks os ms = ms ++ l ∧ l.length = os.length
  | [], ms => ⟨[], by simp [masks]⟩
  | o :: os, ms => by
    obtain ⟨l, h, hl⟩ := masks_pre os (ms ++ [maskOf ms o])
    exact ⟨maskOf ms o :: l, by simp [masks, h], by simp [hl]⟩

theorem foldl_bit (ms : List Nat) (j : Nat) : ∀ (l : List Edge) (s : Nat), (l.foldl (fun s e => cond (anyE e) (Nat.lor (Nat.lor s (Nat.pow 2 e.on)) (ms.getD e.on 0)) s) s).testBit j = true →
    s.testBit j = true ∨ ∃ e ∈ l, anyE e = true ∧ (e.on = j ∨ (ms.getD e.on 0).testBit j = true)
  | [], s, h => .inl h
  | e :: l, s, h => by
    rcases foldl_bit ms j l _ h with h | ⟨e', he, h⟩
    · cases ha : anyE e with
      | false => simp only [ha, cond_false] at h; exact .inl h
      | true =>
        simp only [ha, cond_true] at h
        have h : ((s ||| 2 ^ e.on) ||| (ms.getD e.on 0)).testBit j = true := h
        simp only [Nat.testBit_or, Bool.or_eq_true, Nat.testBit_two_pow, decide_eq_true_eq] at h
        rcases h with (h | h) | h
        · exact .inl h
        · exact .inr ⟨e, by simp, ha, .inl h⟩
        · exact .inr ⟨e, by simp, ha, .inr h⟩
    · exact .inr ⟨e', by simp [he], h⟩

theorem masks_at (os : List Oper) : ∀ (ms : List Nat) (i : Nat) (o : Oper), os[i]? = some o →
    ∃ pre : List Nat, (masks os ms).take (ms.length + i) = pre ∧ pre.length = ms.length + i ∧ (masks os ms).getD (ms.length + i) 0 = maskOf pre o := by
  induction os with
  | nil => intro ms i o h; simp at h
  | cons o os ih =>
    intro ms i o' h
    rw [masks]
    generalize hx : maskOf ms o = x
    obtain ⟨l, hl, _⟩ := masks_pre os (ms ++ [x])
    cases i with
    | zero =>
      simp only [List.getElem?_cons_zero, Option.some.injEq] at h
      subst h
      refine ⟨ms, ?_, by simp, ?_⟩
      · rw [hl]; simp
      · rw [hl, hx]; simp [List.getD_eq_getElem?_getD]
    | succ i =>
      obtain ⟨pre, h1, h2, h3⟩ := ih (ms ++ [x]) i o' (by simpa using h)
      have e : (ms ++ [x]).length + i = ms.length + (i + 1) := by simp; omega
      rw [e] at h1 h2 h3
      exact ⟨pre, h1, h2, h3⟩

section
variable {ops : Array Oper}

theorem opL_eq {i : Nat} {o : Oper} (h : ops[i]? = some o) : opL ops i = o := by
  unfold opL
  rw [List.getD_eq_getElem?_getD, Array.getElem?_toList, h]; rfl

/-- What a mask tells. -/
theorem rch_spec {i j : Nat} {o : Oper} (hi : ops[i]? = some o) (h : rch (masks ops.toList []) i j = true) :
    ∃ e ∈ o.after.toList, anyE e = true ∧ (e.on = j ∨ (e.on < i ∧ rch (masks ops.toList []) e.on j = true)) := by
  obtain ⟨pre, h1, h2, h3⟩ := masks_at ops.toList [] i o (by rw [Array.getElem?_toList]; exact hi)
  simp only [List.length_nil, Nat.zero_add] at h1 h2 h3
  unfold rch at h ⊢
  rw [h3] at h
  rcases foldl_bit pre j _ _ h with h | ⟨e, he, ha, h⟩
  · simp at h
  · refine ⟨e, he, ha, h.imp id fun h => ?_⟩
    by_cases hlt : e.on < i
    · refine ⟨hlt, ?_⟩
      rw [← h1, List.getD_eq_getElem?_getD, List.getElem?_take, if_pos hlt, ← List.getD_eq_getElem?_getD] at h
      exact h
    · rw [List.getD_eq_getElem?_getD, List.getElem?_eq_none (by omega)] at h
      simp at h

/-- What stands ahead of an operation is in every list that has what the operation hangs on. -/
theorem rch_closed {S : Nat → Prop} (hS : ∀ (i : Nat) (o : Oper), S i → ops[i]? = some o → ∀ e ∈ o.after.toList, anyE e = true → S e.on) :
    ∀ (i : Nat) (o : Oper) (j : Nat), ops[i]? = some o → (∀ e ∈ o.after.toList, anyE e = true → S e.on) → rch (masks ops.toList []) i j = true → S j := by
  intro i
  induction i using Nat.strongRecOn with
  | _ i ih =>
    intro o j hi ho h
    obtain ⟨e, he, ha, h⟩ := rch_spec hi h
    rcases h with rfl | ⟨hlt, h⟩
    · exact ho e he ha
    · have hSe := ho e he ha
      cases hoe : ops[e.on]? with
      | none =>
        exfalso
        unfold rch at h
        obtain ⟨l, hl, hll⟩ := masks_pre ops.toList []
        rw [hl, List.getD_eq_getElem?_getD, List.getElem?_eq_none (by
          have := Array.getElem?_eq_none_iff.1 hoe
          simp at hll ⊢; omega)] at h
        simp at h
      | some o' => exact ih e.on hlt o' j hoe (hS _ o' hSe hoe) h

end

theorem runRest_states {X : StepF} {n : Nat} {ops : Array Oper} : ∀ (os : List Oper) (T : PT AV) (H : AH) (T' : PT AV) (H' : AH) (l : List AH), runRest X n ops os T H = some (T', H', l) →
    ∃ st : Nat → PT AV × AH, st 0 = (T, H) ∧ st os.length = (T', H') ∧ (∀ (k : Nat) (o : Oper), os[k]? = some o → isFree o = false → stepA X n ops (st k).1 (st k).2 o = some (st (k + 1))) ∧
      (∀ (k : Nat) (o : Oper), os[k]? = some o → isFree o = true → st (k + 1) = st k) ∧ ∀ k, k ≤ os.length → l[k]? = some (st k).2
  | [], T, H, T', H', l, h => by
    cases h
    exact ⟨fun _ => (T, H), rfl, rfl, fun k o h => (by simp at h), fun k o h => (by simp at h), fun k hk => (by simp at hk; subst hk; rfl)⟩
  | o :: os, T, H, T', H', l, h => by
    have build : ∀ (T1 : PT AV) (H1 : AH) (l2 : List AH), runRest X n ops os T1 H1 = some (T', H', l2) → l = H :: l2 → (isFree o = false → stepA X n ops T H o = some (T1, H1)) → (isFree o = true → (T1, H1) = (T, H)) →
        ∃ st : Nat → PT AV × AH, st 0 = (T, H) ∧ st (o :: os).length = (T', H') ∧ (∀ (k : Nat) (o' : Oper), (o :: os)[k]? = some o' → isFree o' = false → stepA X n ops (st k).1 (st k).2 o' = some (st (k + 1))) ∧
          (∀ (k : Nat) (o' : Oper), (o :: os)[k]? = some o' → isFree o' = true → st (k + 1) = st k) ∧ ∀ k, k ≤ (o :: os).length → l[k]? = some (st k).2 := by
      intro T1 H1 l2 hr hl hn hf
      subst hl
      obtain ⟨st, h0, h1, h2, h3, h4⟩ := runRest_states os T1 H1 T' H' l2 hr
      refine ⟨fun k => match k with | 0 => (T, H) | k + 1 => st k, rfl, h1, ?_, ?_, ?_⟩
      · intro k o' hk ho
        cases k with
        | zero =>
          simp at hk; subst hk
          simp only [h0]; exact hn ho
        | succ k => exact h2 k o' (by simpa using hk) ho
      · intro k o' hk ho
        cases k with
        | zero =>
          simp at hk; subst hk
          simp only [h0]; exact hf ho
        | succ k => exact h3 k o' (by simpa using hk) ho
      · intro k hk
        cases k with
        | zero => rfl
        | succ k => simpa using h4 k (by simpa using hk)
    simp only [runRest] at h
    split at h
    · rename_i hfr
      split at h
      · rename_i T2 H2 l2 hr
        cases h
        exact build T H l2 hr rfl (fun e => by rw [hfr] at e; cases e) (fun _ => rfl)
      · cases h
    · rename_i hfr
      split at h
      · rename_i T1 H1 hs
        split at h
        · rename_i T2 H2 l2 hr
          cases h
          exact build T1 H1 l2 hr rfl (fun _ => hs) (fun e => by rw [hfr] at e; cases e)
        · cases h
      · cases h

theorem count_set : ∀ (l : List Bool) (i : Nat), l[i]? = some false → (l.set i true).count false + 1 = l.count false
  | [], i, h => by simp at h
  | b :: l, 0, h => by simp at h; subst h; simp
  | b :: l, i + 1, h => by
    have := count_set l i (by simpa using h)
    simp only [List.set_cons_succ, List.count_cons]
    omega

section
variable {P : Program} {E : Env} {N : Nat} {X : StepF} {eff reads : Oper → Bool} {n : Nat} {ops : Array Oper}

theorem stepA_cases {T T' : PT AV} {H H' : AH} {o : Oper} (h : stepA X n ops T H o = some (T', H')) :
    (wantedA ops (look T) o = true ∧ ∃ v, X (look T) H o = some (v, H') ∧ setT n T o.dst v = some T') ∨
    (wantedA ops (look T) o = false ∧ setT n T o.dst .und = some T' ∧ H' = H) := by
  unfold stepA at h
  split at h
  · rename_i hw
    split at h
    · rename_i v H1 hx
      split at h
      · rename_i T1 hT
        cases h
        exact .inl ⟨hw, v, hx, hT⟩
      · cases h
    · cases h
  · rename_i hw
    split at h
    · rename_i T1 hT
      cases h
      exact .inr ⟨hw, hT, rfl⟩
    · cases h

theorem wantedA_congr {g g' : Nat → AV} {o : Oper} (h : ∀ t, t ∈ o.looksAt ops → g' t = g t) : wantedA ops g' o = wantedA ops g o := by
  unfold wantedA
  cases hg : o.guard with
  | none => rfl
  | some jw =>
    obtain ⟨j, want⟩ := jw
    simp only
    cases hd : (ops[j]?).bind (·.dst) with
    | none => rfl
    | some t => simp only; rw [h t (by simp [Oper.looksAt, hg, hd])]

/-- The canonical run, and what it leaves alone. -/
structure Canon (X : StepF) (n : Nat) (ops : Array Oper) (st : Nat → PT AV × AH) : Prop where
  step : ∀ (k : Nat) (o : Oper), ops[k]? = some o → isFree o = false → stepA X n ops (st k).1 (st k).2 o = some (st (k + 1))
  skip : ∀ (k : Nat) (o : Oper), ops[k]? = some o → isFree o = true → st (k + 1) = st k
  dst : ∀ (i j : Nat) (o o' : Oper) (d : Nat), i ≠ j → ops[i]? = some o → ops[j]? = some o' → o.dst = some d → o'.dst ≠ some d

theorem Canon.stepLook {st : Nat → PT AV × AH} (c : Canon X n ops st) {k : Nat} {o : Oper} (hk : ops[k]? = some o) {t : Nat} (ht : isFree o = false → o.dst ≠ some t) :
    look (st (k + 1)).1 t = look (st k).1 t := by
  cases hf : isFree o with
  | true => rw [c.skip k o hk hf]
  | false =>
    have h : stepA X n ops (st k).1 (st k).2 o = some ((st (k + 1)).1, (st (k + 1)).2) := c.step k o hk hf
    rcases stepA_cases h with ⟨_, v, _, hT⟩ | ⟨_, hT, _⟩
    · exact (setT_look hT).2 t (ht hf)
    · exact (setT_look hT).2 t (ht hf)

theorem Canon.heap {st : Nat → PT AV × AH} (hX : StepOK P E N X eff reads) (c : Canon X n ops st) {k : Nat} {o : Oper} (hk : ops[k]? = some o) (he : effN eff o = false) :
    (st (k + 1)).2 = (st k).2 := by
  cases hf : isFree o with
  | true => rw [c.skip k o hk hf]
  | false =>
    have he : eff o = false := by simpa [effN, hf] using he
    have h : stepA X n ops (st k).1 (st k).2 o = some ((st (k + 1)).1, (st (k + 1)).2) := c.step k o hk hf
    rcases stepA_cases h with ⟨_, v, hx, _⟩ | ⟨_, _, e⟩
    · exact hX.quiet he hx
    · exact e

theorem Canon.look0 {st : Nat → PT AV × AH} (c : Canon X n ops st) {t : Nat} : ∀ m, m ≤ ops.size → (∀ (j : Nat) (o : Oper), j < m → ops[j]? = some o → isFree o = false → o.dst ≠ some t) → look (st m).1 t = look (st 0).1 t
  | 0, _, _ => rfl
  | m + 1, hm, h => by
    have hk : ops[m]? = some ops[m] := Array.getElem?_eq_getElem (by omega)
    rw [c.stepLook hk (h m _ (by omega) hk)]
    exact Canon.look0 c m (by omega) fun j o hj => h j o (by omega)

theorem Canon.look1 {st : Nat → PT AV × AH} (c : Canon X n ops st) {t j : Nat} {o : Oper} (hj : ops[j]? = some o) (hd : o.dst = some t) :
    ∀ m, j + 1 + m ≤ ops.size → look (st (j + 1 + m)).1 t = look (st (j + 1)).1 t
  | 0, _ => rfl
  | m + 1, hm => by
    have hk : ops[j + 1 + m]? = some ops[j + 1 + m] := Array.getElem?_eq_getElem (by omega)
    have := c.stepLook hk (fun _ => c.dst j (j + 1 + m) o _ t (by omega) hj hk hd)
    rw [show j + 1 + (m + 1) = j + 1 + m + 1 by omega, this]
    exact Canon.look1 c hj hd m (by omega)

theorem Canon.lookEnd {st : Nat → PT AV × AH} (c : Canon X n ops st) {t j m : Nat} {o : Oper} (hj : ops[j]? = some o) (hd : o.dst = some t) (hm : j < m) (hm' : m ≤ ops.size) :
    look (st m).1 t = look (st ops.size).1 t := by
  have h1 := c.look1 hj hd (m - (j + 1)) (by omega)
  have h2 := c.look1 hj hd (ops.size - (j + 1)) (by omega)
  rw [show j + 1 + (m - (j + 1)) = m by omega] at h1
  rw [show j + 1 + (ops.size - (j + 1)) = ops.size by omega] at h2
  rw [h1, h2]

theorem Canon.heaps {st : Nat → PT AV × AH} (hX : StepOK P E N X eff reads) (c : Canon X n ops st) : ∀ (d k : Nat), k + d ≤ ops.size → (∀ (j : Nat) (o : Oper), k ≤ j → j < k + d → ops[j]? = some o → effN eff o = false) →
    (st (k + d)).2 = (st k).2
  | 0, k, _, _ => rfl
  | d + 1, k, hm, h => by
    have hk : ops[k + d]? = some ops[k + d] := Array.getElem?_eq_getElem (by omega)
    have := c.heap hX hk (h (k + d) _ (by omega) (by omega) hk)
    rw [show k + (d + 1) = k + d + 1 by omega, this]
    exact Canon.heaps hX c d k (by omega) fun j o h1 h2 => h j o h1 (by omega)

/-- Two places between which nothing changes memory. -/
theorem Canon.sameHeap {st : Nat → PT AV × AH} (hX : StepOK P E N X eff reads) (c : Canon X n ops st) {k i : Nat} (hk : k ≤ ops.size) (hi : i ≤ ops.size)
    (h : ∀ (j : Nat) (o : Oper), ops[j]? = some o → effN eff o = true → (j < k ↔ j < i)) : (st k).2 = (st i).2 := by
  have key : ∀ a b, a ≤ b → b ≤ ops.size → (∀ (j : Nat) (o : Oper), ops[j]? = some o → effN eff o = true → (j < a ↔ j < b)) → (st b).2 = (st a).2 := by
    intro a b hab hb h
    have := c.heaps hX (b - a) a (by omega) (fun j o h1 h2 ho => by
      cases he : effN eff o with
      | false => rfl
      | true => have := h j o ho he; omega)
    rw [show a + (b - a) = b by omega] at this
    exact this
  rcases Nat.le_total k i with hle | hle
  · exact (key k i hle hi h).symm
  · exact key i k hle hk fun j o ho he => (h j o ho he).symm

/-- What is asked of a region that draws. -/
structure DrawP (eff reads : Oper → Bool) (ops : Array Oper) (R : Nat → Nat → Prop) (fl : Nat → Prop) : Prop where
  after : ∀ (i : Nat) (o : Oper), ops[i]? = some o → ∀ e ∈ o.after.toList, anyE e = true → e.on < i
  dst : ∀ (i j : Nat) (o o' : Oper) (d : Nat), i ≠ j → ops[i]? = some o → ops[j]? = some o' → o.dst = some d → o'.dst ≠ some d
  see : ∀ (i j : Nat) (o o' : Oper) (d : Nat), i ≠ j → ops[i]? = some o → ops[j]? = some o' → o'.dst = some d → d ∈ o.looksAt ops → R i j ∨ R j i
  effs : ∀ (i j : Nat) (o o' : Oper), i ≠ j → ops[i]? = some o → ops[j]? = some o' → effN eff o = true → effN eff o' = true → R i j ∨ R j i
  readss : ∀ (i j : Nat) (o o' : Oper), i ≠ j → ops[i]? = some o → ops[j]? = some o' → reads o = true → effN eff o' = true → (R i j ∨ R j i) ∨ fl i
  flag : ∀ (i j : Nat) (o o' : Oper) (d : Nat), fl i → ops[i]? = some o → ops[j]? = some o' → o'.dst = some d → d ∈ o.looksAt ops → R i j
  reach : ∀ (S : Nat → Prop), (∀ (i : Nat) (o : Oper), S i → ops[i]? = some o → ∀ e ∈ o.after.toList, anyE e = true → S e.on) →
    ∀ (i : Nat) (o : Oper) (j : Nat), ops[i]? = some o → (∀ e ∈ o.after.toList, anyE e = true → S e.on) → R i j → S j

theorem DrawP.lt {R : Nat → Nat → Prop} {fl : Nat → Prop} (d : DrawP eff reads ops R fl) {i j : Nat} {o : Oper} (hi : ops[i]? = some o) (h : R i j) : j < i :=
  d.reach (fun j => j < i) (fun k o hk ho e he ha => Nat.lt_trans (d.after k o ho e he ha) hk) i o j hi (fun e he ha => d.after i o hi e he ha) h

theorem isFree_spec {o : Oper} (h : isFree o = true) : ∃ t d, o.op = .alloc t ∧ o.guard = none ∧ o.dst = some d ∧ ∀ e ∈ o.after.toList, anyE e = false := by
  unfold isFree at h
  split at h
  · rename_i t d h1 h2 h3
    refine ⟨t, d, h1, h2, h3, fun e he => ?_⟩
    have := (List.all_eq_true.1 h) e he
    simpa using this
  · cases h

theorem DrawP.free {R : Nat → Nat → Prop} {fl : Nat → Prop} (d : DrawP eff reads ops R fl) {i j : Nat} {o : Oper} (hi : ops[i]? = some o) (hf : isFree o = true) (h : R i j) : False := by
  obtain ⟨_, _, _, _, _, he⟩ := isFree_spec hf
  exact d.reach (fun _ => False) (fun _ _ h => h.elim) i o j hi (fun e hm ha => by rw [he e hm] at ha; cases ha) h

/-- Where an operation may stand. -/
def MayAt (eff : Oper → Bool) (ops : Array Oper) (R : Nat → Nat → Prop) (i k : Nat) : Prop :=
  k ≤ ops.size ∧ (k = 0 ∨ ∃ e o', k = e + 1 ∧ ops[e]? = some o' ∧ effN eff o' = true) ∧
  (∀ (j : Nat) (o' : Oper), ops[j]? = some o' → effN eff o' = true → (R i j → j < k) ∧ (R j i → k ≤ j))

/-- The flagged ones read the same wherever they may stand. -/
def FlagOK (X : StepF) (eff : Oper → Bool) (ops : Array Oper) (R : Nat → Nat → Prop) (fl : Nat → Prop) (st : Nat → PT AV × AH) : Prop :=
  ∀ (i : Nat) (o : Oper), fl i → ops[i]? = some o → wantedA ops (look (st ops.size).1) o = true → ∀ k, MayAt eff ops R i k →
      ∃ v H2, X (look (st ops.size).1) (st k).2 o = some (v, H2) ∧ ∀ d, o.dst = some d → v = look (st ops.size).1 d

/-- The new variables that hang on nothing: their blocks. -/
structure FreeP (P : Program) (eff : Oper → Bool) (ops : Array Oper) (R : Nat → Nat → Prop) (n : Nat) (T : PT AV) (H : AH) (st : Nat → PT AV × AH) (fid : Nat → Nat) : Prop where
  new : ∀ (i : Nat) (o : Oper), ops[i]? = some o → isFree o = true → H.nx ≤ fid i ∧ fid i < (st 0).2.nx
  inj : ∀ (i j : Nat) (o o' : Oper), i ≠ j → ops[i]? = some o → ops[j]? = some o' → isFree o = true → isFree o' = true → fid i ≠ fid j
  val : ∀ (i : Nat) (o : Oper) (d : Nat), ops[i]? = some o → isFree o = true → o.dst = some d → look (st 0).1 d = .ptr (fid i) 0 ∧ d < n
  base : ∀ t, (∀ (i : Nat) (o : Oper), ops[i]? = some o → isFree o = true → o.dst ≠ some t) → look (st 0).1 t = look T t
  nx : H.nx ≤ (st 0).2.nx
  blk : ∀ (i : Nat) (o : Oper), ops[i]? = some o → isFree o = true → ∃ (cells : List AV) (us : Array Value) (e : TypeId), (∀ x ∈ cells, x.flat = true) ∧ (∀ ρ, VRs ρ cells us.toList) ∧
    (∀ (a : Act) (w : World), (execOp a.eval o).run P w = .ok (.value (.pointer (some ⟨w.heap.size, 0, none⟩))) { w with heap := w.heap.push (.cells us e) }) ∧
    ∀ k, MayAt eff ops R i k → ∃ t, (st k).2.m.get (fid i) = some ⟨cells, true, t, [], some e⟩

/-- Where an order of a region stands. -/
structure Mid (P : Program) (E : Env) (N : Nat) (eff : Oper → Bool) (n : Nat) (ops : Array Oper) (T0 : PT AV) (H0 : AH) (st : Nat → PT AV × AH) (fid : Nat → Nat) (w0 : World) (ρ0 : Pl) (listed : Array Bool) (a : Act) (w : World) : Prop where
  size : listed.size = ops.size
  closed : ∀ (i : Nat) (o : Oper), listed[i]? = some true → ops[i]? = some o → ∀ e ∈ o.after.toList, anyE e = true → listed[e.on]? = some true
  mid : ∃ ρ g k, Le ρ0 ρ ∧ (∀ b, b < H0.nx → ρ b = ρ0 b) ∧ (st 0).2.nx ≤ (st k).2.nx ∧ k ≤ ops.size ∧ (k = 0 ∨ ∃ e o, k = e + 1 ∧ ops[e]? = some o ∧ effN eff o = true) ∧
    (∀ (e : Nat) (o : Oper), ops[e]? = some o → effN eff o = true → (listed[e]? = some true ↔ e < k)) ∧ Rel N ρ (st k).2 w ∧ FRg ρ n g a ∧ Below N w0 w ∧
    (∀ (j : Nat) (o : Oper) (t : Nat), listed[j]? = some true → ops[j]? = some o → o.dst = some t → g t = look (st ops.size).1 t) ∧
    (∀ t, (∀ (j : Nat) (o : Oper), listed[j]? = some true → ops[j]? = some o → o.dst ≠ some t) → g t = look T0 t) ∧
    (∀ (i : Nat) (o : Oper), ops[i]? = some o → isFree o = true → listed[i]? ≠ some true → ρ (fid i) = none)

theorem listed_set {listed : Array Bool} {i j : Nat} (hi : i < listed.size) : (listed.setIfInBounds i true)[j]? = some true ↔ (j = i ∨ listed[j]? = some true) := by
  rw [Array.getElem?_setIfInBounds]
  by_cases e : i = j
  · subst e; simp [hi]
  · rw [if_neg e]
    constructor
    · exact .inr
    · rintro (h | h)
      · exact absurd h.symm e
      · exact h

theorem Mid.step (hX : StepOK P E N X eff reads) {R : Nat → Nat → Prop} {fl : Nat → Prop} (d : DrawP eff reads ops R fl) {T0 : PT AV} {H0 : AH} {st : Nat → PT AV × AH} {fid : Nat → Nat} (c : Canon X n ops st)
    (hf : FlagOK X eff ops R fl st) (fr : FreeP P eff ops R n T0 H0 st fid) {w0 : World} {ρ0 : Pl} (hG : GlobOK E ρ0) {listed : Array Bool} {a : Act} {w : World} (m : Mid P E N eff n ops T0 H0 st fid w0 ρ0 listed a w)
    {i : Nat} {o : Oper} (hi : ops[i]? = some o) (hnot : listed[i]? = some false) (hready : ∀ e ∈ o.after.toList, anyE e = true → listed[e.on]? = some true)
    {K : Act → World → Prop} {Q : Exit → Act → World → Prop} (hK : ∀ a' w', Mid P E N eff n ops T0 H0 st fid w0 ρ0 (listed.setIfInBounds i true) a' w' → K a' w') :
    wpOp P ops Q i K a w := by
  obtain ⟨ρ, g, k, hl, hold, hnx, hk, hkn, hke, hR, hF, hB, g1, g2, hfree⟩ := m.mid
  have hin : i < ops.size := (Array.getElem?_eq_some_iff.1 hi).1
  have hil : i < listed.size := (Array.getElem?_eq_some_iff.1 hnot).1
  have notS : listed[i]? ≠ some true := by rw [hnot]; simp
  have pre : ∀ j, R i j → listed[j]? = some true := fun j h => d.reach _ m.closed i o j hi hready h
  have post : ∀ (j : Nat) (o' : Oper), ops[j]? = some o' → R j i → listed[j]? ≠ some true := by
    intro j o' hj h hS
    exact notS (d.reach _ m.closed j o' i hj (m.closed j o' hS hj) h)
  have may : MayAt eff ops R i k := by
    refine ⟨hk, hkn, fun j o' hj he => ⟨fun h => (hke j o' hj he).1 (pre j h), fun h => ?_⟩⟩
    have := post j o' hj h
    rw [ne_eq, hke j o' hj he] at this
    omega
  -- the next state
  have next : ∀ (u : Value) (v : AV) (ρ' : Pl) (w' : World) (k' : Nat), Le ρ ρ' → (∀ b, b < H0.nx → ρ' b = ρ b) → (st 0).2.nx ≤ (st k').2.nx → k' ≤ ops.size → (k' = 0 ∨ ∃ e o, k' = e + 1 ∧ ops[e]? = some o ∧ effN eff o = true) →
      (∀ (e : Nat) (o : Oper), ops[e]? = some o → effN eff o = true → ((e = i ∨ listed[e]? = some true) ↔ e < k')) → Rel N ρ' (st k').2 w' → VR ρ' v u → Below N w w' →
      (∀ t, o.dst = some t → t < n ∧ v = look (st ops.size).1 t) → (∀ (j : Nat) (o' : Oper), ops[j]? = some o' → isFree o' = true → j ≠ i → listed[j]? ≠ some true → ρ' (fid j) = none) →
      Mid P E N eff n ops T0 H0 st fid w0 ρ0 (listed.setIfInBounds i true) (a.put o.dst u) w' := by
    intro u v ρ' w' k' hl' hold' hnx' hk' hkn' hke' hR' hv hB' hset hfree'
    refine { size := by simp [m.size], closed := ?_, mid := ⟨ρ', fun t => if o.dst = some t then v else g t, k', hl.trans hl', fun b hb => (hold' b hb).trans (hold b hb), hnx', hk', hkn', ?_, hR', ?_, hB.trans hB', ?_, ?_, ?_⟩ }
    · intro j o' hj ho' e he ha
      rw [listed_set hil] at hj ⊢
      rcases hj with rfl | hj
      · rw [hi] at ho'; cases ho'
        exact .inr (hready e he ha)
      · exact .inr (m.closed j o' hj ho' e he ha)
    · intro e o' he heff
      rw [listed_set hil]
      exact hke' e o' he heff
    · refine (hF.mono hl').put (fun d hd => ⟨(hset d hd).1, by simp [hd]⟩) (fun t ht => by simp [ht]) hv
    · intro j o' t hj ho' hd
      rw [listed_set hil] at hj
      by_cases e : j = i
      · subst e
        rw [hi] at ho'; cases ho'
        simp only [hd, if_true]
        exact (hset t hd).2
      · have hj' : listed[j]? = some true := hj.resolve_left e
        have : o.dst ≠ some t := d.dst j i o' o t e ho' hi hd
        simp only [this, if_false]
        exact g1 j o' t hj' ho' hd
    · intro t ht
      have h1 : o.dst ≠ some t := ht i o (by rw [listed_set hil]; exact .inl rfl) hi
      simp only [h1, if_false]
      exact g2 t fun j o' hj ho' => ht j o' (by rw [listed_set hil]; exact .inr hj) ho'
    · intro j o' hj hfj hnl
      rw [ne_eq, listed_set hil, not_or] at hnl
      exact hfree' j o' hj hfj hnl.1 hnl.2
  cases hfr : isFree o with
  | true =>
    obtain ⟨ty, dd, hop, hgd, hdst, _⟩ := isFree_spec hfr
    obtain ⟨cells, us, e, hflat, hvr, hrun, hblk⟩ := fr.blk i o hi hfr
    obtain ⟨tt, hget⟩ := hblk k may
    have hnone := hfree i o hi hfr notS
    have hne : effN eff o = false := by simp [effN, hfr]
    have hnew := fr.new i o hi hfr
    have hval := fr.val i o dd hi hfr hdst
    have hvl := (hvr ρ).length
    rw [Array.length_toList] at hvl
    unfold wpOp
    simp only [hi]
    have hw : Region.wanted o (yielded ops a.tmps) = true := by simp [Region.wanted, hgd]
    rw [hw, if_pos rfl]
    refine .inl ?_
    unfold Oper.wp
    rw [hrun a w]
    have hRn := hR.mapNew hget hnone us e (fun e' he' => by cases he'; rfl) (by omega) (fun j v hj => by
      obtain ⟨u, h1, h2⟩ := (hvr ρ).get j v hj
      exact ⟨u, by simpa using h1, h2⟩) hflat
    refine hK _ _ (next _ (.ptr (fid i) 0) _ _ k (Le.ext _ hnone) (fun b hb => ext_ne _ _ (by omega)) hnx hk hkn ?_ hRn ?_ (below_push N (Below.refl _ _) hR.base _) ?_ ?_)
    · intro e' o' he' heff'
      rw [← hke e' o' he' heff']
      refine ⟨fun h => h.resolve_left ?_, .inr⟩
      rintro rfl
      rw [hi] at he'; cases he'
      rw [hne] at heff'; cases heff'
    · simp only [VR]
      exact ⟨_, ext_same _ _ _, rfl⟩
    · intro t ht
      rw [hdst] at ht
      cases ht
      refine ⟨hval.2, ?_⟩
      rw [c.look0 ops.size (Nat.le_refl _) (fun j o' _ hj hnf hd => ?_), hval.1]
      refine d.dst i j o o' dd (fun e => ?_) hi hj hdst hd
      subst e
      rw [hi] at hj; cases hj
      rw [hfr] at hnf; cases hnf
    · intro j o' hj hfj hji hnl
      rw [ext_ne _ _ (fr.inj j i o' o hji hj hi hfj hfr)]
      exact hfree j o' hj hfj hnl
  | false =>
  -- what the operation looks at is what it looked at in the first order
  have agree : ∀ t, t ∈ o.looksAt ops → g t = look (st i).1 t := by
    intro t ht
    by_cases hw : ∃ (j : Nat) (o' : Oper), ops[j]? = some o' ∧ o'.dst = some t
    · obtain ⟨j, o', hj, hd⟩ := hw
      have uniq : ∀ (j' : Nat) (o2 : Oper), ops[j']? = some o2 → o2.dst = some t → j' = j := by
        intro j' o2 hj' hd'
        refine Classical.byContradiction fun hne => ?_
        exact d.dst j' j o2 o' t hne hj' hj hd' hd
      have early : isFree o' = false → i ≤ j → listed[j]? ≠ some true → g t = look (st i).1 t := by
        intro hnf hij hns
        rw [g2 t (fun j' o2 hS hj' hd' => by rw [uniq j' o2 hj' hd'] at hS; exact hns hS)]
        rw [c.look0 i (by omega) (fun j' o2 hlt hj' _ hd' => by have := uniq j' o2 hj' hd'; omega)]
        refine (fr.base t fun j' o2 hj' hfj hd' => ?_).symm
        have := uniq j' o2 hj' hd'
        subst this
        rw [hj] at hj'; cases hj'
        rw [hnf] at hfj; cases hfj
      by_cases e : j = i
      · subst e
        rw [hi] at hj; cases hj
        exact early hfr (Nat.le_refl _) notS
      · rcases d.see i j o o' t (fun x => e x.symm) hi hj hd ht with h | h
        · rw [g1 j o' t (pre j h) hj hd]
          cases hfj : isFree o' with
          | false => exact (c.lookEnd hj hd (d.lt hi h) (by omega)).symm
          | true =>
            have nf : ∀ (m : Nat), ∀ (j' : Nat) (o2 : Oper), j' < m → ops[j']? = some o2 → isFree o2 = false → o2.dst ≠ some t := by
              intro m j' o2 _ hj' hnf hd'
              have := uniq j' o2 hj' hd'
              subst this
              rw [hj] at hj'; cases hj'
              rw [hfj] at hnf; cases hnf
            rw [c.look0 ops.size (Nat.le_refl _) (nf _), c.look0 i (by omega) (nf _)]
        · have hlt := d.lt hj h
          have hnf : isFree o' = false := by
            rw [← Bool.not_eq_true]
            exact fun hfj => d.free hj hfj h
          exact early hnf (by omega) (post j o' hj h)
    · have hno : ∀ (j : Nat) (o' : Oper), ops[j]? = some o' → o'.dst ≠ some t := fun j o' hj hd => hw ⟨j, o', hj, hd⟩
      rw [g2 t (fun j o' _ hj => hno j o' hj), c.look0 i (by omega) (fun j o' _ hj _ => hno j o' hj), fr.base t (fun j o' hj _ => hno j o' hj)]
  have agreeOp : ∀ t, .tmp t ∈ o.op.operands.toList → g t = look (st i).1 t := by
    intro t ht
    exact agree t (List.mem_append_left _ (List.mem_filterMap.2 ⟨.tmp t, ht, rfl⟩))
  have hwant : wantedA ops g o = wantedA ops (look (st i).1) o := wantedA_congr agree
  have hstep : stepA X n ops (st i).1 (st i).2 o = some ((st (i + 1)).1, (st (i + 1)).2) := c.step i o hi hfr
  have hset' : ∀ (v : AV), setT n (st i).1 o.dst v = some (st (i + 1)).1 → ∀ t, o.dst = some t → t < n ∧ v = look (st ops.size).1 t := by
    intro v hset t ht
    obtain ⟨s1, _⟩ := setT_look hset
    refine ⟨(s1 t ht).1, ?_⟩
    rw [← (s1 t ht).2]
    exact c.lookEnd hi ht (by omega) (by omega)
  have hfree' : ∀ {ρ' : Pl}, (∀ b, b < (st k).2.nx → ρ' b = ρ b) → ∀ (j : Nat) (o' : Oper), ops[j]? = some o' → isFree o' = true → j ≠ i → listed[j]? ≠ some true → ρ' (fid j) = none := by
    intro ρ' he j o' hj hfj _ hnl
    rw [he (fid j) (Nat.lt_of_lt_of_le (fr.new j o' hj hfj).2 hnx)]
    exact hfree j o' hj hfj hnl
  have hold' : ∀ {ρ' : Pl}, (∀ b, b < (st k).2.nx → ρ' b = ρ b) → ∀ b, b < H0.nx → ρ' b = ρ b := fun he b hb => he b (Nat.lt_of_lt_of_le hb (Nat.le_trans fr.nx hnx))
  -- an operation that changes memory stands where it stood
  have here : effN eff o = true → (st k).2 = (st i).2 := by
    intro heff
    refine c.sameHeap hX hk (by omega) fun j o' hj he => ?_
    rw [← hke j o' hj he]
    by_cases e : j = i
    · subst e
      constructor
      · intro h; exact absurd h notS
      · intro h; omega
    · rcases d.effs i j o o' (fun x => e x.symm) hi hj heff he with h | h
      · exact ⟨fun _ => d.lt hi h, fun _ => pre j h⟩
      · have := d.lt hj h
        exact ⟨fun hS => absurd hS (post j o' hj h), fun hlt => by omega⟩
  have keff : effN eff o = true → ∀ (e : Nat) (o' : Oper), ops[e]? = some o' → effN eff o' = true → ((e = i ∨ listed[e]? = some true) ↔ e < i + 1) := by
    intro heff e o' he heff'
    by_cases ei : e = i
    · subst ei; simp
    · rcases d.effs i e o o' (fun x => ei x.symm) hi he heff heff' with h | h
      · have := d.lt hi h
        exact ⟨fun _ => by omega, fun _ => .inr (pre e h)⟩
      · have := d.lt he h
        exact ⟨fun hS => absurd (hS.resolve_left ei) (post e o' he h), fun hlt => by omega⟩
  have kquiet : effN eff o = false → ∀ (e : Nat) (o' : Oper), ops[e]? = some o' → effN eff o' = true → ((e = i ∨ listed[e]? = some true) ↔ e < k) := by
    intro heff e o' he heff'
    rw [← hke e o' he heff']
    refine ⟨fun h => h.resolve_left ?_, .inr⟩
    rintro rfl
    rw [hi] at he; cases he
    rw [heff] at heff'; cases heff'
  unfold wpOp
  simp only [hi]
  rw [wanted_ok hF, hwant]
  rcases stepA_cases hstep with ⟨hw, v, hx, hset⟩ | ⟨hw, hset, hheap⟩
  · rw [hw, if_pos rfl]
    cases heffN : effN eff o with
    | true =>
      have hx' : X g (st k).2 o = some (v, (st (i + 1)).2) := by rw [here heffN]; exact hX.congr agreeOp hx
      exact .inl (hX.sound hx' (hG.mono hl) hR hF fun u ρ' w' h1 h2 h3 h4 => hK _ _ (next u v ρ' w' (i + 1) h1.le (hold' h1.2.2) (Nat.le_trans hnx h1.2.1) (by omega) (.inr ⟨i, o, rfl, hi, heffN⟩) (keff heffN) h2 h3 h4 (hset' v hset) (hfree' h1.2.2)))
    | false =>
      have heff : eff o = false := by simpa [effN, hfr] using heffN
      have fin : ∀ v', X g (st k).2 o = some (v', (st k).2) → (∀ t, o.dst = some t → t < n ∧ v' = look (st ops.size).1 t) → (o.wp P a w K Q ∨ (o.asks P a w ∧ LetsOut Q)) := fun v' hx' hs' =>
        .inl (hX.sound hx' (hG.mono hl) hR hF fun u ρ' w' h1 h2 h3 h4 => hK _ _ (next u v' ρ' w' k h1.le (hold' h1.2.2) hnx hk hkn (kquiet heffN) h2 h3 h4 hs' (hfree' h1.2.2)))
      cases hrd : reads o with
      | false => exact fin v (hX.congr agreeOp (hX.pure heff hrd hx)) (hset' v hset)
      | true =>
        by_cases hfl : fl i
        · have final : ∀ t, t ∈ o.looksAt ops → g t = look (st ops.size).1 t := by
            intro t ht
            by_cases hwr : ∃ (j : Nat) (o' : Oper), ops[j]? = some o' ∧ o'.dst = some t
            · obtain ⟨j, o', hj, hd⟩ := hwr
              exact g1 j o' t (pre j (d.flag i j o o' t hfl hi hj hd ht)) hj hd
            · have hno : ∀ (j : Nat) (o' : Oper), ops[j]? = some o' → o'.dst ≠ some t := fun j o' hj hd => hwr ⟨j, o', hj, hd⟩
              rw [g2 t (fun j o' _ hj => hno j o' hj), c.look0 ops.size (Nat.le_refl _) (fun j o' _ hj _ => hno j o' hj), fr.base t (fun j o' hj _ => hno j o' hj)]
          have hwe : wantedA ops (look (st ops.size).1) o = true := by
            rw [← hw]
            refine wantedA_congr fun t ht => ?_
            rw [← agree t ht]
            exact (final t ht).symm
          obtain ⟨v', H2, hx2, hv2⟩ := hf i o hfl hi hwe k may
          have hq := hX.quiet heff hx2
          rw [hq] at hx2
          have hx3 : X g (st k).2 o = some (v', (st k).2) :=
            hX.congr (fun t ht => final t (List.mem_append_left _ (List.mem_filterMap.2 ⟨.tmp t, ht, rfl⟩))) hx2
          exact fin v' hx3 (fun t ht => ⟨(hset' v hset t ht).1, hv2 t ht⟩)
        · have hs : (st k).2 = (st i).2 := by
            refine c.sameHeap hX hk (by omega) fun j o' hj he => ?_
            rw [← hke j o' hj he]
            by_cases e : j = i
            · subst e
              rw [hi] at hj; cases hj
              rw [heffN] at he; cases he
            · rcases (d.readss i j o o' (fun x => e x.symm) hi hj hrd he).resolve_right hfl with h | h
              · exact ⟨fun _ => d.lt hi h, fun _ => pre j h⟩
              · have := d.lt hj h
                exact ⟨fun hS => absurd hS (post j o' hj h), fun hlt => by omega⟩
          have hq := hX.quiet heff hx
          refine fin v ?_ (hset' v hset)
          rw [hs]
          rw [hq] at hx
          exact hX.congr agreeOp hx
  · rw [hw, if_neg (by simp)]
    have hVR : VR ρ AV.und undef := by simp [VR, AV.und, VRs, undef]
    cases heffN : effN eff o with
    | true =>
      have hst : (st (i + 1)).2 = (st k).2 := by rw [hheap, here heffN]
      refine hK _ _ (next undef .und ρ w (i + 1) (Le.refl _) (fun _ _ => rfl) (by rw [hst]; exact hnx) (by omega) (.inr ⟨i, o, rfl, hi, heffN⟩) (keff heffN) ?_ hVR (Below.refl _ _) (hset' .und hset) (hfree' fun _ _ => rfl))
      rw [hst]; exact hR
    | false => exact hK _ _ (next undef .und ρ w k (Le.refl _) (fun _ _ => rfl) hnx hk hkn (kquiet heffN) hR hVR (Below.refl _ _) (hset' .und hset) (hfree' fun _ _ => rfl))

theorem listed_false {listed : Array Bool} {i : Nat} : listed.getD i true = false ↔ listed[i]? = some false := by
  rw [Array.getD_eq_getD_getElem?]
  cases h : listed[i]? with
  | none => simp
  | some b => cases b <;> simp
theorem listed_true {listed : Array Bool} {i : Nat} : listed.getD i false = true ↔ listed[i]? = some true := by
  rw [Array.getD_eq_getD_getElem?]
  cases h : listed[i]? with
  | none => simp
  | some b => cases b <;> simp

theorem binds_any {md : Region.Mode} {e : Edge} (h : anyE e = true) : Region.binds md e = true := by
  obtain ⟨on, ground⟩ := e
  cases ground <;> first | rfl | (have h2 : false = true := h; cases h2)

/-- Where nothing waits for ever, an order that ends has all. -/
theorem acyc_all {md : Region.Mode} (h : acyc md ops.toList = true) {listed : Array Bool} (hs : listed.size = ops.size) (hr : Region.ready md ops listed = []) : ∀ i, i < ops.size → listed[i]? = some true := by
  have key : ∀ (m i : Nat), (marksN md ops.toList m).getD i false = true → i < ops.size → listed[i]? = some true := by
    intro m
    induction m with
    | zero => intro i hi; simp [marksN] at hi
    | succ m ih =>
      intro i hi hlt
      have ho : ops[i]? = some ops[i] := Array.getElem?_eq_getElem hlt
      have hz : (ops.toList.zipIdx)[i]? = some (ops[i], i) := by simp [hlt]
      have hm : marks1 md (marksN md ops.toList m) (ops[i], i) = true := by
        simp only [marksN, List.getD_eq_getElem?_getD, List.getElem?_map, hz, Option.map_some, Option.getD_some] at hi
        exact hi
      simp only [marks1, Bool.or_eq_true, List.all_eq_true, Bool.not_eq_true'] at hm
      rcases hm with hm | hm
      · exact ih i hm hlt
      · have hil : i < listed.size := by omega
        cases hb : listed[i] with
        | true => rw [Array.getElem?_eq_getElem hil, hb]
        | false =>
          exfalso
          have : i ∈ Region.ready md ops listed := by
            rw [mem_ready]
            refine ⟨listed_false.2 (by rw [Array.getElem?_eq_getElem hil, hb]), _, ho, fun e he hbd => ?_⟩
            rcases hm e (by simpa using he) with h1 | h1
            · rw [hbd] at h1; cases h1
            · refine listed_true.2 (ih e.on h1 ?_)
              refine Classical.byContradiction fun hge => ?_
              have hlen : ∀ m, (marksN md ops.toList m).length ≤ ops.size := by
                intro m; cases m <;> simp [marksN]
              have := hlen m
              rw [List.getD_eq_getElem?_getD, List.getElem?_eq_none (by omega)] at h1
              cases h1
          rw [hr] at this
          cases this
  intro i hi
  simp only [acyc, Bool.and_eq_true, List.all_eq_true, Nat.beq_eq] at h
  refine key ops.toList.length i ?_ hi
  rw [List.getD_eq_getElem?_getD]
  have hl : i < (marksN md ops.toList ops.toList.length).length := by rw [h.2]; simpa using hi
  rw [List.getElem?_eq_getElem hl]
  exact h.1 _ (List.getElem_mem hl)

theorem Mid.any (hX : StepOK P E N X eff reads) {md : Region.Mode} (hac : acyc md ops.toList = true) {R : Nat → Nat → Prop} {fl : Nat → Prop} (d : DrawP eff reads ops R fl) {T0 : PT AV} {H0 : AH} {st : Nat → PT AV × AH} {fid : Nat → Nat} (c : Canon X n ops st)
    (hf : FlagOK X eff ops R fl st) (fr : FreeP P eff ops R n T0 H0 st fid) {w0 : World} {ρ0 : Pl} (hG : GlobOK E ρ0) {Q : Exit → Act → World → Prop}
    (hQ : ∀ a' ρ' w', Lx H0 (st ops.size).2 ρ0 ρ' → Rel N ρ' (st ops.size).2 w' → FRg ρ' n (look (st ops.size).1) a' → Below N w0 w' → Q .normal a' w') :
    ∀ (fuel : Nat) (listed : Array Bool) (a : Act) (w : World), Mid P E N eff n ops T0 H0 st fid w0 ρ0 listed a w → listed.toList.count false ≤ fuel →
      wpAny P md ops Q fuel listed a w := by
  have atEnd : ∀ (listed : Array Bool) (a : Act) (w : World), Mid P E N eff n ops T0 H0 st fid w0 ρ0 listed a w → Region.ready md ops listed = [] → Q .normal a w := by
    intro listed a w m hr
    have all := acyc_all hac m.size hr
    obtain ⟨ρ, g, k, hl, hold, hnx, hk, hkn, hke, hR, hF, hB, g1, g2, _⟩ := m.mid
    have hsame : (st k).2 = (st ops.size).2 := c.sameHeap hX hk (Nat.le_refl _) fun j o hj he => by
      have hjn := (Array.getElem?_eq_some_iff.1 hj).1
      rw [← hke j o hj he]
      exact ⟨fun _ => hjn, fun _ => all j hjn⟩
    refine hQ a ρ w ⟨hl, ?_, hold⟩ ?_ ?_ hB
    · rw [← hsame]; exact Nat.le_trans fr.nx hnx
    · rw [← hsame]; exact hR
    · refine hF.congr fun t => ?_
      by_cases hwr : ∃ (j : Nat) (o' : Oper), ops[j]? = some o' ∧ o'.dst = some t
      · obtain ⟨j, o', hj, hd⟩ := hwr
        exact (g1 j o' t (all j (Array.getElem?_eq_some_iff.1 hj).1) hj hd).symm
      · have hno : ∀ (j : Nat) (o' : Oper), ops[j]? = some o' → o'.dst ≠ some t := fun j o' hj hd => hwr ⟨j, o', hj, hd⟩
        rw [g2 t (fun j o' _ hj => hno j o' hj), c.look0 ops.size (Nat.le_refl _) (fun j o' _ hj _ => hno j o' hj), fr.base t (fun j o' hj _ => hno j o' hj)]
  intro fuel
  induction fuel with
  | zero =>
    intro listed a w m hc
    have hr : Region.ready md ops listed = [] := by
      rw [List.eq_nil_iff_forall_not_mem]
      intro i hi
      rw [mem_ready] at hi
      have h0 := listed_false.1 hi.1
      have := count_set listed.toList i (by rw [Array.getElem?_toList]; exact h0)
      omega
    exact ⟨hr, atEnd listed a w m hr⟩
  | succ fuel ih =>
    intro listed a w m hc
    refine ⟨atEnd listed a w m, fun i hi => ?_⟩
    rw [mem_ready] at hi
    obtain ⟨hnot, o, ho, hready⟩ := hi
    have h0 := listed_false.1 hnot
    refine m.step hX d c hf fr hG ho h0 (fun e he ha => listed_true.1 (hready e (by simpa using he) (binds_any ha))) fun a' w' m' => ?_
    refine ih _ a' w' m' ?_
    have := count_set listed.toList i (by rw [Array.getElem?_toList]; exact h0)
    have e : (listed.setIfInBounds i true).toList = listed.toList.set i true := by simp
    rw [e]
    omega

theorem looksDst_of {o o' : Oper} {d : Nat} (hd : o'.dst = some d) (h : d ∈ o.looksAt ops) : looksDst ops o o' = true := by
  unfold looksDst
  rw [hd]
  simp only [List.any_eq_true]
  exact ⟨d, h, by rw [Nat.beq_eq]⟩

theorem flags_DrawP {M : List Nat} {fl : List Nat} (h : flags eff reads ops = some (M, fl)) :
    M = masks ops.toList [] ∧ DrawP eff reads ops (fun i j => rch M i j = true) (fun i => i ∈ fl) ∧ (∀ i ∈ fl, i < ops.size) ∧ ∀ md, acyc md ops.toList = true := by
  unfold flags at h
  simp only at h
  split at h
  case h_2 => cases h
  rename_i hc
  cases h
  simp only [Bool.and_eq_true, drawOK, List.all_eq_true, List.mem_range, Bool.or_eq_true, Bool.not_eq_true'] at hc
  obtain ⟨⟨⟨⟨hrow, hfl⟩, hac1⟩, hac2⟩, hac3⟩ := hc
  have lt : ∀ (i : Nat) (o : Oper), ops[i]? = some o → i < ops.toList.length := fun i o hi => by
    have := (Array.getElem?_eq_some_iff.1 hi).1; simpa using this
  have row : ∀ (i j : Nat) (o o' : Oper), i ≠ j → ops[i]? = some o → ops[j]? = some o' →
      sameDst o o' = false ∧ (looksDst ops o o' = false ∨ cmp (masks ops.toList []) i j = true) ∧ ((effN eff o && effN eff o') = false ∨ cmp (masks ops.toList []) i j = true) := by
    intro i j o o' hne hi hj
    have := hrow i (lt i o hi)
    simp only [drawRow, Bool.and_eq_true, List.all_eq_true, List.mem_range, Bool.or_eq_true, Bool.not_eq_true'] at this
    have k := this.2 j (lt j o' hj)
    rw [opL_eq hi, opL_eq hj] at k
    rcases k with k | k
    · rw [Nat.beq_eq] at k; exact absurd k hne
    · exact ⟨k.1.1, k.1.2, k.2⟩
  have cmp' : ∀ i j, cmp (masks ops.toList []) i j = true → rch (masks ops.toList []) i j = true ∨ rch (masks ops.toList []) j i = true := by
    intro i j h
    simpa [cmp] using h
  refine ⟨rfl, ?_, fun i hi => by have := (List.mem_filter.1 hi).1; simpa using this, fun md => by cases md <;> assumption⟩
  exact {
    after := by
      intro i o hi e he ha
      have := hrow i (lt i o hi)
      simp only [drawRow, Bool.and_eq_true, List.all_eq_true, Bool.or_eq_true, Bool.not_eq_true'] at this
      have k := this.1 e (by rw [opL_eq hi]; exact he)
      rcases k with k | k
      · rw [ha] at k; cases k
      · simpa [Nat.blt_eq] using k
    dst := by
      intro i j o o' d hne hi hj hd hd'
      have := (row i j o o' hne hi hj).1
      simp [sameDst, hd, hd'] at this
    see := by
      intro i j o o' d hne hi hj hd ht
      rcases (row i j o o' hne hi hj).2.1 with h | h
      · rw [looksDst_of hd ht] at h; cases h
      · exact cmp' i j h
    effs := by
      intro i j o o' hne hi hj he he'
      rcases (row i j o o' hne hi hj).2.2 with h | h
      · rw [he, he'] at h; cases h
      · exact cmp' i j h
    readss := by
      intro i j o o' hne hi hj hr he
      by_cases hm : i ∈ (List.range ops.toList.length).filter (flagged eff reads ops (masks ops.toList []))
      · exact .inr hm
      · refine .inl ?_
        have : flagged eff reads ops (masks ops.toList []) i = false := by
          rw [← Bool.not_eq_true]
          exact fun h => hm (List.mem_filter.2 ⟨List.mem_range.2 (lt i o hi), h⟩)
        simp only [flagged, Bool.and_eq_false_iff] at this
        rw [opL_eq hi, hr] at this
        simp only [Bool.true_eq_false, false_or] at this
        rw [← Bool.not_eq_true, List.any_eq_true] at this
        refine cmp' i j ?_
        refine Classical.byContradiction fun hc => this ⟨j, List.mem_range.2 (lt j o' hj), ?_⟩
        rw [opL_eq hj, he]
        simpa using hc
    flag := by
      intro i j o o' d hm hi hj hd ht
      have hm' := (List.mem_filter.1 hm).2
      rcases hfl i (lt i o hi) with h | h
      · rw [hm'] at h; cases h
      · simp only [flagOK, List.all_eq_true, List.mem_range, Bool.or_eq_true, Bool.not_eq_true'] at h
        rcases h j (lt j o' hj) with k | k
        · rw [opL_eq hi, opL_eq hj, looksDst_of hd ht] at k; cases k
        · exact k
    reach := fun S hS i o j hi ho h => rch_closed hS i o j hi ho h }

theorem mayAt_of {M : List Nat} {i k : Nat} (h : MayAt eff ops (fun i j => rch M i j = true) i k) : mayAt eff ops M i k = true := by
  obtain ⟨hk, hkn, hkb⟩ := h
  simp only [mayAt, Bool.and_eq_true, Bool.or_eq_true, List.all_eq_true, List.mem_range, Bool.not_eq_true']
  refine ⟨?_, fun j hj => ?_⟩
  · rcases hkn with e | ⟨e, o', e1, e2, e3⟩
    · exact .inl (by rw [Nat.beq_eq]; exact e)
    · refine .inr ?_
      rw [e1, Nat.add_sub_cancel, opL_eq e2]; exact e3
  · have hj' : j < ops.size := by simpa using hj
    have hoj : ops[j]? = some ops[j] := Array.getElem?_eq_getElem hj'
    rw [opL_eq hoj]
    cases he : effN eff ops[j] with
    | false => exact .inl rfl
    | true =>
      obtain ⟨b1, b2⟩ := hkb j _ hoj he
      refine .inr ⟨?_, ?_⟩
      · cases hrc : rch M i j with
        | false => exact .inl rfl
        | true => exact .inr (by simpa [Nat.blt_eq] using b1 hrc)
      · cases hrc : rch M j i with
        | false => exact .inl rfl
        | true => exact .inr (by simpa using b2 hrc)

theorem runFree_spec (hX : StepOK P E N X eff reads) (hdst : ∀ (i j : Nat) (o o' : Oper) (d : Nat), i ≠ j → ops[i]? = some o → ops[j]? = some o' → o.dst = some d → o'.dst ≠ some d) :
    ∀ (os : List Oper) (k : Nat) (T : PT AV) (H : AH) (T1 : PT AV) (H1 : AH), ops.toList.drop k = os → runFree X n ops os T H = some (T1, H1) →
    ∃ fid : Nat → Nat, H.nx ≤ H1.nx ∧
      (∀ (i : Nat) (o : Oper), k ≤ i → ops[i]? = some o → isFree o = true → H.nx ≤ fid i ∧ fid i < H1.nx) ∧
      (∀ (i j : Nat) (o o' : Oper), k ≤ i → k ≤ j → i ≠ j → ops[i]? = some o → ops[j]? = some o' → isFree o = true → isFree o' = true → fid i ≠ fid j) ∧
      (∀ (i : Nat) (o : Oper) (d : Nat), k ≤ i → ops[i]? = some o → isFree o = true → o.dst = some d → look T1 d = .ptr (fid i) 0 ∧ d < n) ∧
      (∀ t, (∀ (i : Nat) (o : Oper), k ≤ i → ops[i]? = some o → isFree o = true → o.dst ≠ some t) → look T1 t = look T t) ∧
      (∀ b, b < H.nx → H1.m.get b = H.m.get b) ∧
      (∀ b ab, H1.m.get b = some ab → H.m.get b = some ab ∨ (H.nx ≤ b ∧ b < H1.nx ∧ ab.anc = [])) ∧
      (∀ (i : Nat) (o : Oper), k ≤ i → ops[i]? = some o → isFree o = true → ∃ (cells : List AV) (us : Array Value) (e : TypeId), (∀ x ∈ cells, x.flat = true) ∧ (∀ ρ, VRs ρ cells us.toList) ∧
        (∀ (a : Act) (w : World), (execOp a.eval o).run P w = .ok (.value (.pointer (some ⟨w.heap.size, 0, none⟩))) { w with heap := w.heap.push (.cells us e) }) ∧
        H1.m.get (fid i) = some ⟨cells, true, false, [], some e⟩)
  | [], k, T, H, T1, H1, hd, hr => by
    cases hr
    have none' : ∀ (i : Nat) (o : Oper), k ≤ i → ops[i]? = some o → False := by
      intro i o hk hi
      have := (Array.getElem?_eq_some_iff.1 hi).1
      have hl : (ops.toList.drop k).length = 0 := by rw [hd]; rfl
      simp only [List.length_drop, Array.length_toList] at hl
      omega
    exact ⟨fun _ => 0, Nat.le_refl _, fun i o hk hi _ => (none' i o hk hi).elim, fun i j o o' hk _ _ hi _ _ _ => (none' i o hk hi).elim, fun i o d hk hi _ _ => (none' i o hk hi).elim, fun t _ => rfl, fun b _ => rfl, fun b ab hb => .inl hb,
      fun i o hk hi _ => (none' i o hk hi).elim⟩
  | o :: os, k, T, H, T1, H1, hd, hr => by
    have hi0 : ops[k]? = some o := by
      rw [← Array.getElem?_toList]
      have := congrArg (·[0]?) hd
      simpa using this
    have hd' : ops.toList.drop (k + 1) = os := by
      rw [← List.drop_drop, hd]; rfl
    simp only [runFree] at hr
    split at hr
    · rename_i hfr
      split at hr
      case h_2 => cases hr
      rename_i T' H' hs
      obtain ⟨ty, dd, hop, hgd, hdd, _⟩ := isFree_spec hfr
      have hst : ∃ v, X (look T) H o = some (v, H') ∧ setT n T o.dst v = some T' := by
        rcases stepA_cases hs with ⟨_, v, h1, h2⟩ | ⟨hw, _, _⟩
        · exact ⟨v, h1, h2⟩
        · simp [wantedA, hgd] at hw
      obtain ⟨v, hx, hset⟩ := hst
      obtain ⟨cells, e, hnew, rfl, hflat, us, hvr, hrun⟩ := hX.free hop hx
      obtain ⟨hnx, hg⟩ := new_get hnew
      obtain ⟨s1, s2⟩ := setT_look hset
      obtain ⟨fid, f0, f1, f2, f3, f4, f5, f7, f6⟩ := runFree_spec hX hdst os (k + 1) T' H' T1 H1 hd' hr
      refine ⟨fun i => if i = k then H.nx else fid i, by omega, ?_, ?_, ?_, ?_, ?_, ?_, ?_⟩
      · intro i o' hk hi hf
        by_cases ei : i = k
        · subst ei; simp only [if_true]; omega
        · simp only [ei, if_false]
          obtain ⟨a1, a2⟩ := f1 i o' (by omega) hi hf
          omega
      · intro i j o1 o2 hki hkj hne h1 h2 hf1 hf2
        by_cases ei : i = k
        · subst ei
          have ej : j ≠ i := fun e => hne e.symm
          simp only [if_true, ej, if_false]
          have := (f1 j o2 (by omega) h2 hf2).1
          omega
        · by_cases ej : j = k
          · subst ej
            simp only [if_true, ei, if_false]
            have := (f1 i o1 (by omega) h1 hf1).1
            omega
          · simp only [ei, ej, if_false]
            exact f2 i j o1 o2 (by omega) (by omega) hne h1 h2 hf1 hf2
      · intro i o' d' hk hi hf hd2
        by_cases ei : i = k
        · subst ei
          rw [hi0] at hi; cases hi
          simp only [if_true]
          refine ⟨?_, (s1 d' hd2).1⟩
          rw [f4 d' (fun j o2 hj hj2 _ hd3 => hdst i j o o2 d' (by omega) hi0 hj2 hd2 hd3)]
          exact (s1 d' hd2).2
        · simp only [ei, if_false]
          exact f3 i o' d' (by omega) hi hf hd2
      · intro t ht
        rw [f4 t (fun i o' hk hi hf => ht i o' (by omega) hi hf)]
        exact s2 t (ht k o (Nat.le_refl _) hi0 hfr)
      · intro b hb
        rw [f5 b (by omega), hg, if_neg (by omega)]
      · intro b ab hb
        rcases f7 b ab hb with h | ⟨h1, h2, h3⟩
        · rw [hg] at h
          split at h
          · rename_i e'
            cases h
            exact .inr ⟨by omega, by omega, rfl⟩
          · exact .inl h
        · exact .inr ⟨by omega, h2, h3⟩
      · intro i o' hk hi hf
        by_cases ei : i = k
        · subst ei
          rw [hi0] at hi; cases hi
          simp only [if_true]
          refine ⟨cells, us, e, hflat, hvr, hrun, ?_⟩
          rw [f5 H.nx (by omega), hg, if_pos rfl]
        · simp only [ei, if_false]
          exact f6 i o' (by omega) hi hf
    · rename_i hfr
      obtain ⟨fid, f0, f1, f2, f3, f4, f5, f7, f6⟩ := runFree_spec hX hdst os (k + 1) T H T1 H1 hd' hr
      have ne : ∀ (i : Nat) (o' : Oper), k ≤ i → ops[i]? = some o' → isFree o' = true → k + 1 ≤ i := by
        intro i o' hk hi hf
        have : i ≠ k := by
          rintro rfl
          rw [hi0] at hi; cases hi
          rw [hfr] at hf; cases hf
        omega
      exact ⟨fid, f0, fun i o' hk hi hf => f1 i o' (ne i o' hk hi hf) hi hf, fun i j o1 o2 hki hkj hne h1 h2 hf1 hf2 => f2 i j o1 o2 (ne i o1 hki h1 hf1) (ne j o2 hkj h2 hf2) hne h1 h2 hf1 hf2,
        fun i o' d' hk hi hf => f3 i o' d' (ne i o' hk hi hf) hi hf, fun t ht => f4 t fun i o' hk => ht i o' (by omega), f5, f7, fun i o' hk hi hf => f6 i o' (ne i o' hk hi hf) hi hf⟩

/-- A region that draws its order. -/
theorem draw_wp (hX : StepOK P E N X eff reads) {T T' : PT AV} {H H' : AH} {ρ : Pl} {a : Act} {w : World} {id : Nat} {Q : Exit → Act → World → Prop}
    (hr : drawOps eff reads X n ops T H = some (T', H')) (hG : GlobOK E ρ) (hR : Rel N ρ H w) (hF : FRg ρ n (look T) a)
    (hQ : ∀ a' ρ' w', Lx H H' ρ ρ' → Rel N ρ' H' w' → FRg ρ' n (look T') a' → Below N w w' → Q .normal a' w') : (Code.region id ops true).wp P Q a w := by
  unfold drawOps at hr
  split at hr
  case h_2 => cases hr
  rename_i M fl hfl
  split at hr
  case h_2 => cases hr
  rename_i T1 H1 hfree
  split at hr
  case h_2 => cases hr
  rename_i T2 H2 Hs hrun
  split at hr
  case h_2 => cases hr
  rename_i hchk
  cases hr
  rw [Bool.and_eq_true] at hchk
  obtain ⟨hchk, hchf⟩ := hchk
  obtain ⟨hM, d, hflt, hac⟩ := flags_DrawP (by rw [← flags2_eq]; exact hfl)
  obtain ⟨fid, f0, f1, f2, f3, f4, f5, f7, f6⟩ := runFree_spec hX d.dst ops.toList 0 T H T1 H1 (by simp) hfree
  obtain ⟨st, h0, h1, h2, h3, h4⟩ := runRest_states ops.toList T1 H1 T' H' Hs hrun
  rw [Array.length_toList] at h1 h4
  have c : Canon X n ops st := ⟨fun k o hk hf => h2 k o (by rw [Array.getElem?_toList]; exact hk) hf, fun k o hk hf => h3 k o (by rw [Array.getElem?_toList]; exact hk) hf, d.dst⟩
  have hz : ∀ k, k ≤ ops.size → ((st k).2, k) ∈ Hs.zipIdx := fun k hk => by
    rw [List.mem_zipIdx_iff_getElem?]
    exact h4 k hk
  have hf : FlagOK X eff ops (fun i j => rch M i j = true) (fun i => i ∈ fl) st := by
    intro i o hi ho hw k hmay
    have hc := (List.all_eq_true.1 hchk) i hi
    simp only [chk, Bool.or_eq_true, Bool.not_eq_true', List.all_eq_true] at hc
    rw [opL_eq ho] at hc
    rw [h1] at hw ⊢
    rcases hc with hc | hc
    · rw [hw] at hc; cases hc
    · rcases hc _ (hz k hmay.1) with hx | hx
      · rw [mayAt_of hmay] at hx; cases hx
      · unfold chkAt at hx
        rw [opL_eq ho] at hx
        split at hx
        · rename_i v H3 hxv
          refine ⟨v, H3, hxv, fun dd hd => ?_⟩
          rw [hd] at hx
          exact AV.eq_of_beq _ _ hx
        · cases hx
  have fr : FreeP P eff ops (fun i j => rch M i j = true) n T H st fid := {
    new := fun i o hi hfr => by rw [h0]; exact f1 i o (Nat.zero_le _) hi hfr
    inj := fun i j o o' hne hi hj hfi hfj => f2 i j o o' (Nat.zero_le _) (Nat.zero_le _) hne hi hj hfi hfj
    val := fun i o dd hi hfr hd => by rw [h0]; exact f3 i o dd (Nat.zero_le _) hi hfr hd
    base := fun t ht => by rw [h0]; exact f4 t fun i o _ => ht i o
    nx := by rw [h0]; exact f0
    blk := by
      intro i o hi hfr
      obtain ⟨cells, us, e, b1, b2, b3, b4⟩ := f6 i o (Nat.zero_le _) hi hfr
      refine ⟨cells, us, e, b1, b2, b3, fun k hmay => ?_⟩
      obtain ⟨ty, dd, _, _, hdd, _⟩ := isFree_spec hfr
      have hin := (Array.getElem?_eq_some_iff.1 hi).1
      have hc := (List.all_eq_true.1 hchf) i (List.mem_range.2 (by simpa using hin))
      simp only [chkFree, Bool.or_eq_true, Bool.not_eq_true', List.all_eq_true] at hc
      rw [opL_eq hi] at hc
      rcases hc with hc | hc
      · rw [hfr] at hc; cases hc
      · rcases hc _ (hz k hmay.1) with hx | hx
        · rw [mayAt_of hmay] at hx; cases hx
        · unfold freeAt at hx
          rw [hdd] at hx
          have hlk : look T' dd = .ptr (fid i) 0 := by
            have e1 := c.look0 (t := dd) ops.size (Nat.le_refl _) (fun j o' _ hj hnf hd2 => by
              refine d.dst i j o o' dd (fun e => ?_) hi hj hdd hd2
              subst e
              rw [hi] at hj; cases hj
              rw [hfr] at hnf; cases hnf)
            rw [h1, h0] at e1
            rw [e1]
            exact (f3 i o dd (Nat.zero_le _) hi hfr hdd).1
          simp only at hx
          rw [hlk] at hx
          simp only [b4] at hx
          split at hx
          · rename_i x y hx1 hy
            cases hx1
            simp only [Bool.and_eq_true] at hx
            obtain ⟨⟨⟨⟨q1, q2⟩, q3⟩, q4⟩, q5⟩ := hx
            obtain ⟨yc, yw, yt, ya, yy⟩ := y
            have e1 := AV.eq_of_beqs _ _ q1
            have e5 := tyEq_eq q5
            simp only at e1 q2 q3 e5
            subst e1
            subst q2
            subst e5
            cases ya with
            | nil => exact ⟨yt, hy⟩
            | cons => cases q3
          · cases hx }
  refine wp_region_draw fun t => ?_
  have rep : ∀ (i : Nat), (Array.replicate ops.size false)[i]? = some true → False := by
    intro i h
    rw [Array.getElem?_replicate] at h
    split at h <;> simp at h
  have start : Mid P E N eff n ops T H st fid { w with drawn := w.drawn + 1 } ρ (Array.replicate ops.size false) a { w with drawn := w.drawn + 1 } := by
    refine { size := by simp, closed := fun i o h => (rep i h).elim, mid := ⟨ρ, look T, 0, Le.refl _, fun _ _ => rfl, Nat.le_refl _, Nat.zero_le _, .inl rfl, ?_, ?_, hF, Below.refl _ _, fun j o t h => (rep j h).elim, fun t _ => rfl, ?_⟩ }
    · intro e o he heff
      exact ⟨fun h => (rep e h).elim, fun h => by omega⟩
    · rw [h0]; exact (hR.more f0 f5 f7).drew _
    · intro i o hi hfr _
      exact hR.fresh _ (f1 i o (Nat.zero_le _) hi hfr).1
  have fin : ∀ md, wpAny P md ops Q ops.size (Array.replicate ops.size false) a { w with drawn := w.drawn + 1 } := fun md =>
    Mid.any (w0 := { w with drawn := w.drawn + 1 }) (ρ0 := ρ) hX (hac md) d c hf fr hG (fun a' ρ' w' hl hr' hf' hb => by
      rw [h1] at hl hr' hf'
      exact hQ a' ρ' w' hl hr' hf' ⟨hb.os, hb.tape, hb.output, hb.size, hb.block⟩) ops.size _ a _ start (by simp)
  unfold Region.schedule
  split
  · exact wpAny_sound ops.size t _ a _ (fin _)
  · split
    · exact wpAny_sound ops.size _ _ a _ (fin _)
    · exact wpAny_sound ops.size _ _ a _ (fin _)

end
end
end Go.Proofs.YtofpjpeededndaaGreatDoorSim
