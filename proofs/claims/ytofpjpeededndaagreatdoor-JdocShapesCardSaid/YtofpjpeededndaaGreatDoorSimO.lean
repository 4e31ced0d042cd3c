/- THE ABSTRACT MACHINE'S OPERATIONS, and that the program's are as they say. -/
import Derived.Test.YtofpjpeededndaaGreatDoorSimR
import Derived.Laws.Sem
set_option linter.unusedVariables false
namespace Go.Proofs.YtofpjpeededndaaGreatDoorSim
noncomputable section
open Go.RowKit (Below)

/-- What the machine knows of a type. -/
structure TI where
  desc : TypeDesc
  size : Nat
  bytes : Nat
  zero : Option AV

structure Env where
  ti : TypeId → Option TI
  glob : Nat → Bool
  fn : FuncId → Option Func
  prim : FuncId → Option (List AV → AH → Option (AV × AH))
  /-- types of structs and arrays that may be compared cell by cell -/
  plain : TypeId → Bool
  /-- functions without a body that give their one argument back -/
  ext : FuncId → Bool

/-- A function without a body that gives its argument back. -/
def ExtSame (P : Program) (f : FuncId) : Prop :=
  ∃ fn, P.funcs[f]? = some fn ∧ (fn.name == "runtime.NumGoroutine") = false ∧ fn.body.isNone = true ∧ Extern.findNext fn = none ∧ Extern.find fn = some Extern.AbiNoEscape.same

def ofFlat : Value → Option AV
  | .bool b => some (.bool b)
  | .int k n => some (.int k n)
  | .string s => some (.str (s.data.toList.map UInt8.toNat))
  | .pointer none => some .nilp
  | .slice none 0 0 => some .nils
  | .func (.func f) x y => match x.toList, y.toList with
    | [], [] => some (.func f)
    | _, _ => none
  | .nilFunc => some .nilf
  | .nilIface => some .nili
  | _ => none

def ofFlats : List Value → Option (List AV)
  | [] => some []
  | v :: vs => match ofFlat v, ofFlats vs with
    | some a, some as => some (a :: as)
    | _, _ => none

def ofValue : Value → Option AV
  | .agg cs => match ofFlats cs.toList with
    | some vs => some (.agg vs)
    | none => none
  | v => ofFlat v

theorem bs_of (s : ByteArray) : bs (s.data.toList.map UInt8.toNat) = s := by
  unfold bs
  rw [List.map_map]
  have : (UInt8.ofNat ∘ UInt8.toNat) = id := by funext x; simp
  rw [this, List.map_id]

theorem ofFlat_VR (ρ : Pl) {v : Value} {a : AV} (h : ofFlat v = some a) : VR ρ a v ∧ a.flat = true := by
  unfold ofFlat at h
  split at h
  · cases h; simp [VR, AV.flat]
  · cases h; simp [VR, AV.flat]
  · rename_i s
    cases h
    refine ⟨?_, rfl⟩
    simp only [VR]
    refine ⟨by rw [bs_of], fun x hx => ?_⟩
    obtain ⟨y, _, rfl⟩ := List.mem_map.1 hx
    exact y.toNat_lt
  · cases h; simp [VR, AV.flat]
  · cases h; simp [VR, AV.flat]
  · rename_i f x y
    split at h
    · rename_i hx hy
      cases h
      refine ⟨?_, rfl⟩
      simp only [VR]
      rw [Array.toList_eq_nil_iff.1 hx, Array.toList_eq_nil_iff.1 hy]
    · cases h
  · cases h; simp [VR, AV.flat]
  · cases h; simp [VR, AV.flat]
  · cases h

theorem ofFlats_VR (ρ : Pl) : ∀ {vs : List Value} {as : List AV}, ofFlats vs = some as → VRs ρ as vs ∧ ∀ a ∈ as, a.flat = true
  | [], as, h => by cases h; simp [VRs]
  | v :: vs, as, h => by
    unfold ofFlats at h
    split at h
    · rename_i a as' h1 h2
      cases h
      obtain ⟨k1, k2⟩ := ofFlat_VR ρ h1
      obtain ⟨m1, m2⟩ := ofFlats_VR ρ h2
      simp only [VRs]
      refine ⟨⟨v, vs, rfl, k1, m1⟩, fun x hx => ?_⟩
      cases hx with
      | head => exact k2
      | tail _ hx => exact m2 x hx
    · cases h

theorem ofValue_VR (ρ : Pl) {v : Value} {a : AV} (h : ofValue v = some a) : VR ρ a v ∧ ∀ x ∈ a.cells, x.flat = true := by
  unfold ofValue at h
  split at h
  · split at h
    · rename_i cs _ vs hv
      cases h
      obtain ⟨k1, k2⟩ := ofFlats_VR ρ hv
      simp only [VR]
      exact ⟨⟨_, rfl, k1⟩, k2⟩
    · cases h
  · obtain ⟨k1, k2⟩ := ofFlat_VR ρ h
    refine ⟨k1, fun x hx => ?_⟩
    have : a.cells = [a] := by cases a <;> simp_all [AV.cells, AV.flat]
    rw [this] at hx
    simp at hx; subst hx; exact k2

/-- What the machine knows is so. -/
structure EnvOK (P : Program) (E : Env) : Prop where
  ti : ∀ t x, E.ti t = some x → P.underlying t = some x.desc ∧ ∃ i, P.info? t = some i ∧ i.size = x.size ∧ i.bytes = x.bytes ∧ ∀ z, x.zero = some z → ∃ u, i.zero = some u ∧ ofValue u = some z
  fn : ∀ f x, E.fn f = some x → P.funcs[f]? = some x
  fnB : ∀ f x, E.fn f = some x → (∃ c, x.body = some c) ∧ x.name ≠ "runtime.NumGoroutine"
  plain : ∀ t, E.plain t = true → P.stoodInHeld t = false ∧ P.eqGuardType P.depth t = false
  ext : ∀ f, E.ext f = true → ExtSame P f

def GlobOK (E : Env) (ρ : Pl) : Prop := ∀ g, E.glob g = true → ∃ x, ρ g = some ⟨g, 0, x⟩
theorem GlobOK.mono {E : Env} {ρ ρ' : Pl} (h : GlobOK E ρ) (hl : Le ρ ρ') : GlobOK E ρ' := fun g hg => let ⟨x, hx⟩ := h g hg; ⟨x, hl _ _ hx⟩

def ev (E : Env) (T : PT AV) : Operand → Option AV
  | .tmp t => match T.get t with | some v => some v | none => some .und
  | .const v => ofValue v
  | .global g => match E.glob g with | true => some (.ptr g 0) | false => none
  | .func f => some (.func f)

/-- How the machine's slots stand to the frame's. -/
structure FR (ρ : Pl) (n : Nat) (T : PT AV) (a : Act) : Prop where
  size : a.tmps.size = n
  defers : a.defers = []
  tmp : ∀ t, VR ρ ((T.get t).getD .und) (a.tmps.getD t undef)

theorem FR.mono {ρ ρ' : Pl} {n : Nat} {T : PT AV} {a : Act} (h : FR ρ n T a) (hl : Le ρ ρ') : FR ρ' n T a :=
  ⟨h.size, h.defers, fun t => (h.tmp t).mono hl⟩

theorem ev_VR {E : Env} {ρ : Pl} {n : Nat} {T : PT AV} {a : Act} (hg : GlobOK E ρ) (h : FR ρ n T a) {x : Operand} {v : AV} (hv : ev E T x = some v) :
    VR ρ v (a.eval x) := by
  cases x with
  | tmp t =>
    have := h.tmp t
    simp only [ev] at hv
    cases hT : T.get t with
    | none => rw [hT] at hv this; cases hv; exact this
    | some u => rw [hT] at hv this; cases hv; exact this
  | const c => exact (ofValue_VR ρ hv).1
  | global g =>
    simp only [ev] at hv
    split at hv
    · rename_i hgl
      cases hv
      obtain ⟨x, hx⟩ := hg g hgl
      simp only [VR, Act.eval]
      exact ⟨_, hx, rfl⟩
    · cases hv
  | func f =>
    cases hv
    simp [VR, Act.eval]

def setT (n : Nat) (T : PT AV) (dst : Option Tmp) (v : AV) : Option (PT AV) :=
  match dst with
  | none => some T
  | some d => match Nat.blt d n with
    | true => T.set 64 d (some v)
    | false => none

theorem FR.put {ρ : Pl} {n : Nat} {T T' : PT AV} {a : Act} (h : FR ρ n T a) {dst : Option Tmp} {v : AV} {u : Value} (hs : setT n T dst v = some T') (hv : VR ρ v u) :
    FR ρ n T' (a.put dst u) := by
  cases dst with
  | none => cases hs; exact h
  | some d =>
    simp only [setT] at hs
    split at hs
    · rename_i hd
      have hd : @LT.lt Nat _ d n := by simpa [Nat.blt_eq] using hd
      have hg := PT.get_set _ _ _ _ _ hs
      refine ⟨by simp [Act.put, h.size], h.defers, fun t => ?_⟩
      rw [hg]
      by_cases e : t = d
      · subst e
        have hsz := h.size
        simp only [if_pos, Option.getD_some, Act.put]
        rw [Array.getD_eq_getD_getElem?, Array.getElem?_setIfInBounds_self_of_lt (by omega)]
        exact hv
      · rw [if_neg e]
        have := h.tmp t
        simp only [Act.put]
        rw [Array.getD_eq_getD_getElem?] at this ⊢
        rw [Array.getElem?_setIfInBounds_ne (fun h => e h.symm)]
        exact this
    · cases hs

/-- A step of the program's that is as the machine's. -/
def Ok (P : Program) (N : Nat) (ρ : Pl) (H : AH) (w : World) (m : Sem Next) (v : AV) (H' : AH) : Prop :=
  ∃ u ρ' w', (m.run P w = .ok (.value u) w' ∨ (m.run P w = .ok .skip w' ∧ u = undef)) ∧ Lx H H' ρ ρ' ∧ Rel N ρ' H' w' ∧ VR ρ' v u ∧ Below N w w'

section
variable {P : Program} {E : Env} {N : Nat} {ρ : Pl} {H H' : AH} {w : World}

theorem Ok.pure (h : Rel N ρ H w) {v : AV} {u : Value} {m : Sem Value} (hv : VR ρ v u) (hm : m.run P w = .ok u w) :
    Ok P N ρ H w (do Pure.pure (Next.value (← m))) v H :=
  ⟨u, ρ, w, .inl (by simp [hm]), Lx.refl H ρ, h, hv, Below.refl _ _⟩

/-! ### types -/
theorem EnvOK.und (hE : EnvOK P E) {t : TypeId} {x : TI} (h : E.ti t = some x) : (underlying t).run P w = .ok x.desc w := by
  simp [underlying, (hE.ti t x h).1]
theorem EnvOK.info (hE : EnvOK P E) {t : TypeId} {x : TI} (h : E.ti t = some x) : ∃ i, (typeInfo t).run P w = .ok i w ∧ i.size = x.size ∧ i.bytes = x.bytes ∧
    ∀ z, x.zero = some z → ∃ u, i.zero = some u ∧ ofValue u = some z := by
  obtain ⟨_, i, hi, h1, h2, h3⟩ := hE.ti t x h
  exact ⟨i, by simp [typeInfo, hi], h1, h2, h3⟩
theorem EnvOK.size (hE : EnvOK P E) {t : TypeId} {x : TI} (h : E.ti t = some x) : (sizeOf t).run P w = .ok x.size w := by
  obtain ⟨i, hi, h1, _⟩ := hE.info (w := w) h
  simp [sizeOf, hi, h1]
theorem EnvOK.zero (hE : EnvOK P E) {t : TypeId} {x : TI} (h : E.ti t = some x) {z : AV} (hz : x.zero = some z) : ∃ u, (zeroValue t).run P w = .ok u w ∧ ofValue u = some z := by
  obtain ⟨i, hi, _, _, h3⟩ := hE.info (w := w) h
  obtain ⟨u, h1, h2⟩ := h3 z hz
  exact ⟨u, by simp [zeroValue, hi, h1], h2⟩

def aggT : TypeDesc → Bool
  | .struct _ | .array _ _ => true
  | _ => false
theorem EnvOK.agg (hE : EnvOK P E) {t : TypeId} {x : TI} (h : E.ti t = some x) : (isAgg t).run P w = .ok (aggT x.desc) w := by
  simp only [isAgg, Sem.run_bind, hE.und h, Result.andThen_ok]
  cases x.desc <;> rfl

/-! ### cells -/
theorem add_eq (B o n : Nat) : (⟨B, o, none⟩ : Addr).add n = ⟨B, o + n, none⟩ := by
  unfold Addr.add
  split
  · rename_i h; subst h; rfl
  · rfl

theorem run_loadCellsFrom (B o : Nat) : ∀ (us : List Value) (i : Nat) (acc : Array Value), (∀ j u, us[j]? = some u → w.cell? ⟨B, o + i + j, none⟩ = some u) →
    (loadCellsFrom ⟨B, o, none⟩ i us.length acc).run P w = .ok (acc ++ us.toArray) w
  | [], i, acc, h => by simp [loadCellsFrom]
  | u :: us, i, acc, h => by
    have h0 := h 0 u rfl
    simp only [List.length_cons, loadCellsFrom, Sem.run_bind, run_load, add_eq]
    rw [show o + i + 0 = o + i by omega] at h0
    rw [h0]
    simp only [Result.andThen_ok]
    rw [run_loadCellsFrom B o us (i + 1) (acc.push u) (fun j x hx => by
      have := h (j + 1) x (by simpa using hx)
      rw [show o + (i + 1) + j = o + i + (j + 1) by omega]; exact this)]
    simp

theorem run_loadCells (B o : Nat) (us : List Value) (h : ∀ (j : Nat) u, us[j]? = some u → w.cell? ⟨B, o + j, none⟩ = some u) :
    (loadCells ⟨B, o, none⟩ us.length).run P w = .ok us.toArray w := by
  unfold loadCells
  rw [run_loadCellsFrom B o us 0 #[] (fun j u hu => by simpa using h j u hu)]
  simp

theorem run_storeCells (B o : Nat) : ∀ (us : List Value) (i : Nat) (w : World), (∀ u ∈ us, u.oneCell' = true) →
    (∀ j, j < us.length → (∃ u, w.cell? ⟨B, o + i + j, none⟩ = some u) ∧ w.frozen? ⟨B, o + i + j, none⟩ = false) →
    (storeCells ⟨B, o, none⟩ us i).run P w = .ok () (putCells w B (o + i) us)
  | [], i, w, h, k => by simp [storeCells, putCells]
  | u :: us, i, w, h, k => by
    obtain ⟨⟨x, h0⟩, h1⟩ := k 0 (by simp)
    rw [show o + i + 0 = o + i by omega] at h0 h1
    simp only [storeCells, Sem.run_bind, add_eq]
    rw [run_store _ _ _ _ _ (h u (by simp)), h0]
    simp only [h1, Bool.false_eq_true, if_false, Result.andThen_ok]
    rw [run_storeCells B o us (i + 1) _ (fun x hx => h x (by simp [hx])) (fun j hj => by
      obtain ⟨⟨y, hy⟩, hz⟩ := k (j + 1) (by simp; omega)
      refine ⟨⟨y, ?_⟩, ?_⟩
      · rw [cell_setCell_ne _ _ _ _ _ _ (fun ⟨_, e⟩ => by omega), show o + (i + 1) + j = o + i + (j + 1) by omega]; exact hy
      · rw [frozen_setCell, show o + (i + 1) + j = o + i + (j + 1) by omega]; exact hz)]
    rw [putCells, show o + (i + 1) = o + i + 1 by omega]

theorem VRs.one {vs : List AV} {us : List Value} (h : VRs ρ vs us) (hf : ∀ v ∈ vs, v.flat = true) : ∀ u ∈ us, u.oneCell' = true := by
  induction vs generalizing us with
  | nil => simp only [VRs] at h; subst h; intro u hu; cases hu
  | cons v vs ih =>
    simp only [VRs] at h
    obtain ⟨u, us', rfl, h1, h2⟩ := h
    intro x hx
    cases hx with
    | head =>
      obtain ⟨a, b, _⟩ := h1.flat (hf v (by simp))
      cases u <;> first | rfl | exact absurd rfl (a _) | exact absurd rfl (b _)
    | tail _ hx => exact ih h2 (fun y hy => hf y (by simp [hy])) x hx

/-- The cells that a read gives, of the world. -/
theorem Rel.cellsAt (h : Rel N ρ H w) {b o n : Nat} {vs : List AV} (hr : H.read b o n = some vs) {L : Loc} (hL : ρ b = some L) :
    ∃ us : List Value, us.length = n ∧ VRs ρ vs us ∧ ∀ (j : Nat) u, us[j]? = some u → w.cell? ⟨L.B, L.o + o + j, none⟩ = some u := by
  obtain ⟨hlen, _, hc⟩ := h.read hr hL
  refine ⟨(List.range n).map fun j => (w.cell? ⟨L.B, L.o + o + j, none⟩).getD undef, by simp, VRs.of_get (by simp [hlen]) fun i v hi => ?_, fun j u hu => ?_⟩
  · obtain ⟨u, h1, h2⟩ := hc i v hi
    have hlt : i < n := by rw [← hlen]; exact (List.getElem?_eq_some_iff.1 hi).1
    refine ⟨u, ?_, h2⟩
    simp [hlt, h1]
  · have hlt : j < n := by
      have := (List.getElem?_eq_some_iff.1 hu).1
      simpa using this
    obtain ⟨v, hv⟩ : ∃ v, vs[j]? = some v := ⟨_, List.getElem?_eq_getElem (by omega)⟩
    obtain ⟨x, h1, h2⟩ := hc j v hv
    simp [hlt, h1] at hu
    rw [h1, hu]

/-! ### reading and writing variables -/
def aLoad (E : Env) (H : AH) (t : TypeId) (p : AV) : Option AV :=
  match p, E.ti t with
  | .ptr b o, some x =>
    match aggT x.desc with
    | true => match H.read b o x.size with
      | some vs => some (.agg vs)
      | none => none
    | false => match H.read b o 1 with
      | some [v] => some v
      | _ => none
  | _, _ => none

theorem load_ok (hE : EnvOK P E) (h : Rel N ρ H w) {t : TypeId} {p : AV} {u : Value} (hp : VR ρ p u) {v : AV} (hv : aLoad E H t p = some v) :
    ∃ x, (Instr.loadAt t u).run P w = .ok x w ∧ VR ρ v x := by
  unfold aLoad at hv
  split at hv
  case h_2 => cases hv
  rename_i b o x hx
  simp only [VR] at hp
  obtain ⟨L, hL, rfl⟩ := hp
  split at hv
  · rename_i ha
    split at hv
    case h_2 => cases hv
    rename_i vs hr
    cases hv
    obtain ⟨us, hl, hvr, hc⟩ := h.cellsAt hr hL
    refine ⟨.agg us.toArray, ?_, by simp only [VR]; exact ⟨_, rfl, by simpa using hvr⟩⟩
    simp only [Instr.loadAt, Instr.sureAddr, Sem.run_bind, Sem.run_pure, Result.andThen_ok, loadVar, hE.agg hx, ha, if_true, hE.size hx]
    rw [← hl, run_loadCells _ _ us hc]
    rfl
  · rename_i ha
    split at hv
    case h_2 => cases hv
    rename_i y hr
    cases hv
    obtain ⟨us, hl, hvr, hc⟩ := h.cellsAt hr hL
    simp only [VRs] at hvr
    obtain ⟨u, us', rfl, hvr, rfl⟩ := hvr
    refine ⟨u, ?_, hvr⟩
    have := hc 0 u rfl
    simp only [Instr.loadAt, Instr.sureAddr, Sem.run_bind, Sem.run_pure, Result.andThen_ok, loadVar, hE.agg hx, ha, Bool.false_eq_true, if_false, run_load]
    rw [show L.o + o + 0 = L.o + o by omega] at this
    rw [this]

def aStore (E : Env) (H : AH) (t : TypeId) (p v : AV) : Option AH :=
  match p, E.ti t with
  | .ptr b o, some x =>
    match Nat.beq v.cells.length x.size with
    | true => H.write b o v.cells
    | false => none
  | _, _ => none

theorem store_ok (hE : EnvOK P E) (h : Rel N ρ H w) {t : TypeId} {p v : AV} {u x : Value} (hp : VR ρ p u) (hv : VR ρ v x) (hs : aStore E H t p v = some H') :
    ∃ w', (Instr.storeAt t u x).run P w = .ok () w' ∧ Rel N ρ H' w' ∧ Below N w w' ∧ H'.nx = H.nx := by
  unfold aStore at hs
  split at hs
  case h_2 => cases hs
  rename_i b o y hy
  split at hs
  case h_2 => cases hs
  rename_i hsz
  rw [Nat.beq_eq] at hsz
  simp only [VR] at hp
  obtain ⟨L, hL, rfl⟩ := hp
  have hc := hv.cells
  obtain ⟨r, hN, hthere, hflat, hnx⟩ := h.write hs hL hc
  refine ⟨_, ?_, r, putCells_below N L.B hN _ _ _ _ (Below.refl _ _), hnx⟩
  have hl := hc.length
  simp only [Instr.storeAt, Instr.sureAddr, Sem.run_bind, Sem.run_pure, Result.andThen_ok, storeVar, hE.size hy]
  rw [if_neg (by simp only [Array.length_toList] at hl; omega)]
  have := run_storeCells (P := P) L.B (L.o + o) x.cells.toList 0 w (hc.one hflat) (fun j hj => by simpa using hthere j hj)
  simpa using this

def aNew (H : AH) (e : TypeId) (vs : List AV) : Option (Nat × AH) :=
  match vs.all AV.flat with
  | true => match H.new ⟨vs, true, false, [], some e⟩ with
    | some H' => some (H.nx, H')
    | none => none
  | false => none

theorem new_ok (h : Rel N ρ H w) {vs : List AV} {us : Array Value} (hv : VRs ρ vs us.toList) {b : Nat} (e : TypeId) (hn : aNew H e vs = some (b, H')) :
    ∃ ρ', Lx H H' ρ ρ' ∧ ρ' b = some ⟨w.heap.size, 0, us.size⟩ ∧ Rel N ρ' H' { w with heap := w.heap.push (.cells us e) } ∧ Below N w { w with heap := w.heap.push (.cells us e) } := by
  unfold aNew at hn
  split at hn
  case h_2 => cases hn
  rename_i hf
  split at hn
  case h_2 => cases hn
  rename_i H1 hnew
  cases hn
  simp only [List.all_eq_true] at hf
  have hl := hv.length
  refine ⟨_, Lx.ext _ (h.fresh _ (Nat.le_refl _)) (new_get hnew).1, ext_same _ _ _, h.new hnew (fun c hc => by cases hc) us e (0, 0) (.inl rfl) (by simp only [Array.length_toList] at hl; show vs.length ≤ us.size; omega) ?_ hf (fun e' he' => by cases he'; rfl), below_push N (Below.refl _ _) h.base _⟩
  intro i v hi
  obtain ⟨u, h1, h2⟩ := hv.get i v hi
  exact ⟨u, by simpa using h1, h2⟩

end
end
end Go.Proofs.YtofpjpeededndaaGreatDoorSim
