/- ALL OPERATIONS OF THE MACHINE, AND THAT THE PROGRAM'S ARE AS THEY SAY. -/
import Derived.Test.YtofpjpeededndaaGreatDoorSimF
set_option linter.unusedVariables false
namespace Go.Proofs.YtofpjpeededndaaGreatDoorSim
noncomputable section
open Go.RowKit (Below)

def isConstOp : Operand → Bool
  | .const _ => true
  | _ => false

def aBin (E : Env) (op : BinOp) (xt : TypeId) (c : Bool) (x y : AV) : Option AV :=
  match x, y with
  | .int k a, .int k' b => match op with
    | .shl => aShift .shl k a b
    | .shr => aShift .shr k a b
    | op => match decide (k = k') with
      | true => aInt op k a b
      | false => none
  | .str a, .str b => aStr op a b
  | .nili, .nili => match c, op with
    | true, .eql => match aEq E 10000 xt .nili .nili with | some b => some (.bool b) | none => none
    | true, .neq => match aEq E 10000 xt .nili .nili with | some b => some (.bool (!b)) | none => none
    | _, _ => none
  | x, y => match op with
    | .eql => match aEq E 10000 xt x y with | some b => some (.bool b) | none => none
    | .neq => match aEq E 10000 xt x y with | some b => some (.bool (!b)) | none => none
    | _ => none

def aUn (op : UnOp) (x : AV) : Option AV :=
  match op, x with
  | .neg, .int k n => some (.int k (k.wrap (0 - n)))
  | .xor, .int k n => match aBits .xor k (if k.signed then -1 else k.max) n with | some m => some (.int k m) | none => none
  | .not, .bool b => some (.bool !b)
  | _, _ => none

def aConv (E : Env) (src dst : TypeId) (x : AV) : Option AV :=
  match E.ti src, E.ti dst with
  | some s, some d => match s.desc, d.desc, x with
    | _, .int k, .int _ n => some (.int k (k.wrap n))
    | _, .string, .int _ n => some (.str ((Utf8.encode n).data.toList.map UInt8.toNat))
    | _, .string, .str s => some (.str s)
    | _, _, _ => none
  | _, _ => none

def aParts (E : Env) (g : Nat → AV) : List (Nat × Operand) → Option (List (Nat × AV))
  | [] => some []
  | (i, x) :: ps => match evg E g x with
    | some v => match aParts E g ps with
      | some vs => some ((i, v) :: vs)
      | none => none
    | none => none

def aPlaces (E : Env) : List Field → Option (List (Nat × Nat))
  | [] => some []
  | f :: fs => match E.ti f.type with
    | some t => match aPlaces E fs with
      | some ps => some ((f.offset, t.size) :: ps)
      | none => none
    | none => none

def aBuild (E : Env) (t : TypeId) (parts : List (Nat × AV)) : Option AV :=
  match E.ti t with
  | some ti => match ti.zero with
    | some z => match ti.desc with
      | .struct fields => match aPlaces E fields.toList with
        | some ps => match aFill (fun i => ps[i]?) z.cells parts with
          | some cs => some (.agg cs)
          | none => none
        | none => none
      | .array _ elem => match E.ti elem with
        | some te => match aFill (fun i => some (i * te.size, te.size)) z.cells parts with
          | some cs => some (.agg cs)
          | none => none
        | none => none
      | _ => none
    | none => none
  | none => none

def zeros (z : List AV) : Nat → List AV
  | 0 => []
  | n + 1 => z ++ zeros z n

def aLen (E : Env) (t : TypeId) (x : AV) : Option AV :=
  match E.ti t with
  | some ti => match ti.desc, x with
    | .string, .str s => some (.int .i64 (Int.ofNat s.length))
    | .array n _, _ => some (.int .i64 (Int.ofNat n))
    | .slice _, .slice _ _ n _ _ => some (.int .i64 (Int.ofNat n))
    | .slice _, .nils => some (.int .i64 0)
    | _, _ => none
  | none => none

def aMax : List AV → Option AV
  | [.int k x, .int _ y] => some (.int k (if x < y then y else x))
  | _ => none
def aMin : List AV → Option AV
  | [.int k x, .int _ y] => some (.int k (if y < x then y else x))
  | _ => none

def aMkFunc (E : Env) (g : Nat → AV) (fn : Fn) (first captured : List Operand) : Option AV :=
  match fn, first, captured with
  | .func f, [], [] => some (.func f)
  | .func f, [], x :: xs => match evgs E g (x :: xs) with
    | some vs => some (.clo f vs)
    | none => none
  | _, _, _ => none

/-- unsafe.SliceData -/
def aSliceData : AV → Option AV
  | .nils => some .nilp
  | .slice b o len _ _ => match Nat.blt 0 len with
    | true => some (.ptr b o)
    | false => none
  | _ => none

def aQuietB (E : Env) (g : Nat → AV) (c : Call) : Option AV :=
  match c.callee with
  | .builtin b => match b with
    | .len => match evgs E g c.args.toList, c.argTypes.toList with
      | some (x :: _), t :: _ => aLen E t x
      | _, _ => none
    | .max => match evgs E g c.args.toList with
      | some vs => aMax vs
      | none => none
    | .min => match evgs E g c.args.toList with
      | some vs => aMin vs
      | none => none
    | .unsafeSliceData => match evgs E g c.args.toList with
      | some [x] => aSliceData x
      | _ => none
    | _ => none
  | _ => none

def pureV (E : Env) (g : Nat → AV) : Op → Option AV
  | .move x | .assign x => evg E g x
  | .pick c a b => match evg E g c with
    | some (.bool true) => evg E g a
    | some (.bool false) => evg E g b
    | _ => none
  | .build t parts => match aParts E g parts.toList with
    | some ps => aBuild E t ps
    | none => none
  | .nilCheck x => match evg E g x with
    | some .nilp | some .nilf | some .nili => none
    | r => r
  | .binOp op xt x y _ => match evg E g x, evg E g y with
    | some a, some b => aBin E op xt (isConstOp x || isConstOp y) a b
    | _, _ => none
  | .unOp op _ x => match evg E g x with
    | some a => aUn op a
    | none => none
  | .convert s d x => match evg E g x with
    | some a => aConv E s d a
    | none => none
  | .slice t x lo hi mx => match evg E g x, evo E g lo, evo E g hi, evo E g mx with
    | some a, some l, some h, some m => aSlice E t a l h m
    | _, _, _, _ => none
  | .fieldAddr s x f => match evg E g x with
    | some a => aFieldAddr E s a f
    | none => none
  | .field t x f => match evg E g x with
    | some a => aField E t a f
    | none => none
  | .indexAddr t x i => match evg E g x, evg E g i with
    | some a, some b => aIndexAddr E t a b
    | _, _ => none
  | .index t x i => match evg E g x, evg E g i with
    | some a, some b => aIndex E t a b
    | _, _ => none
  | .extract x i => match evg E g x with
    | some (.tup vs) => vs[i]?
    | _ => none
  | .makeFunc fn first captured => aMkFunc E g fn first.toList captured.toList
  | .makeInterface t x => match evg E g x, E.ti t with
    | some a, some ti => match ti.desc with
      | .interface _ => none
      | _ => some (.iface t a)
    | _, _ => none
  | .call c => aQuietB E g c
  | _ => none

section
variable {P : Program} {E : Env} {N : Nat} {ρ : Pl} {H H' : AH} {w : World}

theorem guard_no {op : BinOp} {t : TypeId} {x y : Operand} {a b : Value} (h1 : ¬ (a = .nilIface ∧ b = .nilIface)) (h2 : ∀ c d, ¬ (a = .agg c ∧ b = .agg d)) :
    (eqGuard op t x y a b).run P w = .ok () w := by
  unfold eqGuard
  cases op <;> simp only [Bool.not_true, Bool.not_false, if_true, if_false, Bool.false_eq_true] <;> first | rfl | skip
  all_goals
    split
    · rename_i e1 e2; exact absurd ⟨rfl, rfl⟩ h1
    · rename_i c d e1 e2; exact absurd ⟨rfl, rfl⟩ (h2 _ _)
    · rfl

theorem aBin_ok (hE : EnvOK P E) {op : BinOp} {xt : TypeId} {xo yo : Operand} {x y v : AV} {a b : Value} (hx : VR ρ x a) (hy : VR ρ y b) (h : aBin E op xt (isConstOp xo || isConstOp yo) x y = some v) :
    ∃ u, (do eqGuard op xt xo yo a b; binOp op xt a b : Sem Value).run P w = .ok u w ∧ VR ρ v u := by
  have viaEq : ∀ {r : Bool}, (∀ k n, a ≠ .int k n) → (∀ s, a ≠ .string s) → (op = .eql ∨ op = .neq) → (eqGuard op xt xo yo a b).run P w = .ok () w → aEq E 10000 xt x y = some r → v = .bool (if op = .eql then r else !r) →
      ∃ u, (do eqGuard op xt xo yo a b; binOp op xt a b : Sem Value).run P w = .ok u w ∧ VR ρ v u := by
    intro r hni hns ho hgd he hv
    have hq := aEq_ok (w := w) hE 10000 xt x y a b r hx hy he
    have hf : ∀ k n, a ≠ .float k n := by intro k n e; subst e; cases x <;> simp [VR] at hx
    have hc : ∀ k n m, a ≠ .complex k n m := by intro k n m e; subst e; cases x <;> simp [VR] at hx
    refine ⟨.bool (if op = .eql then r else !r), ?_, by rw [hv]; simp [VR]⟩
    simp only [Sem.run_bind, hgd, Result.andThen_ok]
    rcases ho with rfl | rfl
    · have : binOp .eql xt a b = (do Pure.pure (.bool (← Op.equal xt a b)) : Sem Value) := by
        cases a <;> first | rfl | exact absurd rfl (hni _ _) | exact absurd rfl (hns _) | exact absurd rfl (hf _ _) | exact absurd rfl (hc _ _ _)
      rw [this]
      simp only [Sem.run_bind, Op.equal, Op.maxDepth, hq, Result.andThen_ok, Sem.run_pure, if_true]
    · have : binOp .neq xt a b = (do Pure.pure (.bool (!(← Op.equal xt a b))) : Sem Value) := by
        cases a <;> first | rfl | exact absurd rfl (hni _ _) | exact absurd rfl (hns _) | exact absurd rfl (hf _ _) | exact absurd rfl (hc _ _ _)
      rw [this]
      simp only [Sem.run_bind, Op.equal, Op.maxDepth, hq, Result.andThen_ok, Sem.run_pure]
      rfl
  unfold aBin at h
  split at h
  · rename_i k n k' m
    simp only [VR] at hx hy
    subst hx
    subst hy
    have hgd : (eqGuard op xt xo yo (.int k n) (.int k' m)).run P w = .ok () w := guard_no (by simp) (by simp)
    simp only [Sem.run_bind, hgd, Result.andThen_ok]
    split at h
    · exact aShift_ok (.inl rfl) h xt
    · exact aShift_ok (.inr rfl) h xt
    · split at h
      · rename_i hk
        simp only [decide_eq_true_eq] at hk
        subst hk
        exact aInt_ok h xt
      · cases h
  · rename_i s t
    simp only [VR] at hx hy
    obtain ⟨rfl, hs⟩ := hx
    obtain ⟨rfl, ht⟩ := hy
    have hgd : (eqGuard op xt xo yo (.string (bs s)) (.string (bs t))).run P w = .ok () w := guard_no (by simp) (by simp)
    simp only [Sem.run_bind, hgd, Result.andThen_ok]
    have : binOp op xt (.string (bs s)) (.string (bs t)) = Op.stringOp op (bs s) (bs t) := by cases op <;> rfl
    rw [this]
    exact aStr_ok hs ht h
  · have hx' := hx
    have hy' := hy
    simp only [VR] at hx' hy'
    subst hx'
    subst hy'
    have hgd : (isConstOp xo || isConstOp yo) = true → (eqGuard op xt xo yo .nilIface .nilIface).run P w = .ok () w := by
      intro hc
      unfold eqGuard
      cases op <;> simp only [Bool.not_true, Bool.not_false, if_true, if_false, Bool.false_eq_true] <;> first | rfl | skip
      all_goals
        cases xo <;> cases yo <;> first | rfl | (simp [isConstOp] at hc)
    split at h
    · rename_i hc
      split at h
      · rename_i r he
        cases h
        exact viaEq (by simp) (by simp) (.inl rfl) (hgd hc) he (by simp)
      · cases h
    · rename_i hc
      split at h
      · rename_i r he
        cases h
        exact viaEq (by simp) (by simp) (.inr rfl) (hgd hc) he (by simp)
      · cases h
    · cases h
  · rename_i h1 h2 h3
    have noInt : (op = .eql ∨ op = .neq) → (∃ r, aEq E 10000 xt x y = some r) → (∀ k n, a ≠ .int k n) ∧ (∀ s, a ≠ .string s) ∧ (eqGuard op xt xo yo a b).run P w = .ok () w := by
      intro ho ⟨r, he⟩
      rw [aEq] at he
      split at he
      · cases he
      rename_i ti hti
      split at he <;> (try simp only [VR] at hx hy)
      · subst hx; subst hy; exact ⟨by simp, by simp, guard_no (by simp) (by simp)⟩
      · exact absurd rfl (h1 _ _ _ _ rfl)
      · exact absurd rfl (h2 _ _ rfl)
      · subst hx; subst hy; exact ⟨by simp, by simp, guard_no (by simp) (by simp)⟩
      · subst hx; obtain ⟨_, _, rfl⟩ := hy; exact ⟨by simp, by simp, guard_no (by simp) (by simp)⟩
      · obtain ⟨_, _, rfl⟩ := hx; subst hy; exact ⟨by simp, by simp, guard_no (by simp) (by simp)⟩
      · obtain ⟨_, _, rfl⟩ := hx; obtain ⟨_, _, rfl⟩ := hy; exact ⟨by simp, by simp, guard_no (by simp) (by simp)⟩
      · subst hx; subst hy; exact ⟨by simp, by simp, guard_no (by simp) (by simp)⟩
      · subst hx; obtain ⟨_, _, _, _, rfl, _⟩ := hy; exact ⟨by simp, by simp, guard_no (by simp) (by simp)⟩
      · obtain ⟨_, _, _, _, rfl, _⟩ := hx; subst hy; exact ⟨by simp, by simp, guard_no (by simp) (by simp)⟩
      · subst hx; subst hy; exact ⟨by simp, by simp, guard_no (by simp) (by simp)⟩
      · subst hx; subst hy; exact ⟨by simp, by simp, guard_no (by simp) (by simp)⟩
      · subst hx; subst hy; exact ⟨by simp, by simp, guard_no (by simp) (by simp)⟩
      · subst hx; obtain ⟨_, rfl, _⟩ := hy; exact ⟨by simp, by simp, guard_no (by simp) (by simp)⟩
      · obtain ⟨_, rfl, _⟩ := hx; subst hy; exact ⟨by simp, by simp, guard_no (by simp) (by simp)⟩
      · exact absurd rfl (h3 rfl)
      · subst hx; obtain ⟨_, rfl, _⟩ := hy; exact ⟨by simp, by simp, guard_no (by simp) (by simp)⟩
      · obtain ⟨_, rfl, _⟩ := hx; subst hy; exact ⟨by simp, by simp, guard_no (by simp) (by simp)⟩
      · obtain ⟨us, rfl, _⟩ := hx
        obtain ⟨vs, rfl, _⟩ := hy
        split at he
        · rename_i hp
          refine ⟨by simp, by simp, ?_⟩
          have := (hE.plain xt hp).2
          unfold eqGuard
          rcases ho with rfl | rfl <;> simp [this]
        · cases he
      · obtain ⟨us, rfl, _⟩ := hx
        obtain ⟨vs, rfl, _⟩ := hy
        split at he
        · rename_i hp _
          refine ⟨by simp, by simp, ?_⟩
          have := (hE.plain xt hp).2
          unfold eqGuard
          rcases ho with rfl | rfl <;> simp [this]
        · cases he
      · cases he
    split at h
    · split at h
      · rename_i r he
        cases h
        obtain ⟨n1, n2, n3⟩ := noInt (.inl rfl) ⟨r, he⟩
        exact viaEq n1 n2 (.inl rfl) n3 he (by simp)
      · cases h
    · split at h
      · rename_i r he
        cases h
        obtain ⟨n1, n2, n3⟩ := noInt (.inr rfl) ⟨r, he⟩
        exact viaEq n1 n2 (.inr rfl) n3 he (by simp)
      · cases h
    · cases h

theorem aUn_ok {op : UnOp} {x v : AV} {a : Value} (hx : VR ρ x a) (h : aUn op x = some v) : ∃ u, (Op.unary op a).run P w = .ok u w ∧ VR ρ v u := by
  unfold aUn at h
  split at h
  · simp only [VR] at hx; subst hx; cases h; exact ⟨_, rfl, by simp only [VR]⟩
  · simp only [VR] at hx; subst hx
    simp only [aBits, Option.some.injEq] at h
    cases h
    exact ⟨_, rfl, by simp only [VR]⟩
  · simp only [VR] at hx; subst hx; cases h; exact ⟨_, rfl, by simp only [VR]⟩
  · cases h

theorem aConv_ok (hE : EnvOK P E) {s d : TypeId} {x v : AV} {a : Value} (hx : VR ρ x a) (h : aConv E s d x = some v) : ∃ u, (convert s d a).run P w = .ok u w ∧ VR ρ v u := by
  unfold aConv at h
  split at h
  case h_2 => cases h
  rename_i ts td hs hd
  unfold convert
  simp only [Sem.run_bind, hE.und hs, hE.und hd, Result.andThen_ok]
  split at h
  · rename_i k l n e
    simp only [VR] at hx
    subst hx
    rw [e]
    cases h
    cases ts.desc <;> exact ⟨_, rfl, by simp only [VR]⟩
  · rename_i l n e
    simp only [VR] at hx
    subst hx
    rw [e]
    cases h
    have hb : VR ρ (.str ((Utf8.encode n).data.toList.map UInt8.toNat)) (.string (Utf8.encode n)) := by
      simp only [VR]
      refine ⟨by rw [bs_of], fun x hx => ?_⟩
      obtain ⟨y, _, rfl⟩ := List.mem_map.1 hx
      exact y.toNat_lt
    cases ts.desc <;> exact ⟨_, rfl, hb⟩
  · rename_i t e
    have hx0 := hx
    simp only [VR] at hx
    obtain ⟨rfl, hs⟩ := hx
    rw [e]
    cases h
    cases ts.desc <;> exact ⟨_, rfl, hx0⟩
  · cases h

theorem aParts_ok {n : Nat} {g : Nat → AV} {a : Act} (hg : GlobOK E ρ) (hF : FRg ρ n g a) : ∀ (ps : List (Nat × Operand)) (vs : List (Nat × AV)), aParts E g ps = some vs →
    vs.map (·.1) = ps.map (·.1) ∧ VRs ρ (vs.map (·.2)) (ps.map fun p => a.eval p.2)
  | [], vs, h => by cases h; simp [VRs]
  | (i, x) :: ps, vs, h => by
    simp only [aParts] at h
    split at h
    · rename_i v hv
      split at h
      · rename_i vs' hvs
        cases h
        obtain ⟨h1, h2⟩ := aParts_ok hg hF ps vs' hvs
        refine ⟨by simp [h1], ?_⟩
        simp only [List.map_cons, VRs]
        exact ⟨_, _, rfl, evg_VR hg hF hv, h2⟩
      · cases h
    · cases h

theorem aPlaces_ok (hE : EnvOK P E) : ∀ (fs : List Field) (ps : List (Nat × Nat)), aPlaces E fs = some ps →
    (fs.mapM fun f => do Pure.pure (f.offset, ← sizeOf f.type) : Sem (List (Nat × Nat))).run P w = .ok ps w
  | [], ps, h => by cases h; rfl
  | f :: fs, ps, h => by
    simp only [aPlaces] at h
    split at h
    · rename_i t ht
      split at h
      · rename_i ps' hps
        cases h
        simp only [List.mapM_cons, Sem.run_bind, hE.size ht, Result.andThen_ok, Sem.run_pure]
        have := aPlaces_ok hE fs ps' hps
        rw [this]
        rfl
      · cases h
    · cases h

theorem zero_cells (hE : EnvOK P E) {t : TypeId} {ti : TI} (h : E.ti t = some ti) {z : AV} (hz : ti.zero = some z) : ∃ u, (zeroValue t).run P w = .ok u w ∧ VRs ρ z.cells u.cells.toList ∧ ∀ x ∈ z.cells, x.flat = true := by
  obtain ⟨u, h1, h2⟩ := hE.zero (P := P) (w := w) h hz
  obtain ⟨k1, k2⟩ := ofValue_VR ρ h2
  exact ⟨u, h1, k1.cells, k2⟩

theorem aBuild_ok (hE : EnvOK P E) {t : TypeId} {ps : List (Nat × AV)} {us : List (Nat × Value)} {v : AV} (h1 : ps.map (·.1) = us.map (·.1)) (h2 : VRs ρ (ps.map (·.2)) (us.map (·.2))) (h : aBuild E t ps = some v) :
    ∃ u, (Instr.build t us.toArray).run P w = .ok u w ∧ VR ρ v u := by
  unfold aBuild at h
  split at h
  case h_2 => cases h
  rename_i ti hti
  split at h
  case h_2 => cases h
  rename_i z hz
  obtain ⟨uz, hz1, hz2, _⟩ := zero_cells (P := P) (w := w) (ρ := ρ) hE hti hz
  unfold Instr.build
  simp only [Sem.run_bind, hz1, Result.andThen_ok, hE.und hti]
  split at h
  · rename_i fields hd
    rw [hd]
    simp only
    split at h
    case h_2 => cases h
    rename_i pl hpl
    split at h
    case h_2 => cases h
    rename_i cs hcs
    cases h
    have hp := aPlaces_ok (w := w) hE fields.toList pl hpl
    have hm : (fields.mapM fun f => do Pure.pure (f.offset, ← sizeOf f.type) : Sem (Array (Nat × Nat))).run P w = .ok pl.toArray w := by
      rw [Array.mapM_eq_mapM_toList]
      simp only [Sem.run_map, hp, Result.andThen_ok]
    obtain ⟨ur, k1, k2⟩ := aFill_ok ps us z.cells uz.cells cs h1 h2 hz2 hcs
    have k1' : Instr.fill (fun x => pl.toArray[x]?) uz.cells us = some ur := by
      have : (fun (i : Nat) => pl[i]?) = fun (x : Nat) => pl.toArray[x]? := by funext i; simp
      rw [← this]; exact k1
    simp only [Sem.run_bind]
    rw [hm]
    simp only [Result.andThen_ok, k1']
    exact ⟨_, rfl, by simp only [VR]; exact ⟨ur, rfl, k2⟩⟩
  · rename_i len elem hd
    rw [hd]
    simp only
    split at h
    case h_2 => cases h
    rename_i te hte
    split at h
    case h_2 => cases h
    rename_i cs hcs
    cases h
    obtain ⟨ur, k1, k2⟩ := aFill_ok ps us z.cells uz.cells cs h1 h2 hz2 hcs
    simp only [Sem.run_bind, hE.size hte, Result.andThen_ok, k1]
    exact ⟨_, rfl, by simp only [VR]; exact ⟨ur, rfl, k2⟩⟩
  · cases h

end
end
end Go.Proofs.YtofpjpeededndaaGreatDoorSim
