/- HOW THE ABSTRACT MACHINE'S HEAP STANDS TO THE WORLD'S: each block lies in some place of the world, what may be written lies apart from all else. -/
import Derived.Test.YtofpjpeededndaaGreatDoorSimA
set_option linter.unusedVariables false
namespace Go.Proofs.YtofpjpeededndaaGreatDoorSim
noncomputable section
open Go.RowKit (Below)

/-- Where a block lies: block, first cell, how many cells are its own or free behind it. -/
structure Loc where
  B : Nat
  o : Nat
  x : Nat

abbrev Pl := Nat → Option Loc

def Le (ρ ρ' : Pl) : Prop := ∀ b L, ρ b = some L → ρ' b = some L
theorem Le.refl (ρ : Pl) : Le ρ ρ := fun _ _ h => h
theorem Le.trans {a b c : Pl} (h : Le a b) (k : Le b c) : Le a c := fun x L hx => k x L (h x L hx)

def ext (ρ : Pl) (b : Nat) (L : Loc) : Pl := fun m => if m = b then some L else ρ m
theorem ext_same (ρ : Pl) (b : Nat) (L : Loc) : ext ρ b L b = some L := if_pos rfl
theorem ext_ne (ρ : Pl) {b m : Nat} (L : Loc) (h : m ≠ b) : ext ρ b L m = ρ m := if_neg h
theorem Le.ext {ρ : Pl} {b : Nat} (L : Loc) (h : ρ b = none) : Le ρ (ext ρ b L) := by
  intro m M hm
  rw [ext_ne]
  · exact hm
  · rintro rfl; rw [h] at hm; cases hm

/-- The places grow, and none of the old numbers gets a place. -/
def Lx (H H' : AH) (ρ ρ' : Pl) : Prop := Le ρ ρ' ∧ H.nx ≤ H'.nx ∧ ∀ b, b < H.nx → ρ' b = ρ b
theorem Lx.le {H H' : AH} {ρ ρ' : Pl} (h : Lx H H' ρ ρ') : Le ρ ρ' := h.1
theorem Lx.refl (H : AH) (ρ : Pl) : Lx H H ρ ρ := ⟨Le.refl ρ, Nat.le_refl _, fun _ _ => rfl⟩
theorem Lx.same {H H' : AH} {ρ : Pl} (h : H'.nx = H.nx) : Lx H H' ρ ρ := ⟨Le.refl ρ, by omega, fun _ _ => rfl⟩
theorem Lx.trans {H H1 H2 : AH} {ρ ρ1 ρ2 : Pl} (h : Lx H H1 ρ ρ1) (k : Lx H1 H2 ρ1 ρ2) : Lx H H2 ρ ρ2 :=
  ⟨h.1.trans k.1, Nat.le_trans h.2.1 k.2.1, fun b hb => (k.2.2 b (Nat.lt_of_lt_of_le hb h.2.1)).trans (h.2.2 b hb)⟩
theorem Lx.ext {H H' : AH} {ρ : Pl} (L : Loc) (hf : ρ H.nx = none) (h : H'.nx = H.nx + 1) : Lx H H' ρ (ext ρ H.nx L) :=
  ⟨Le.ext L hf, by omega, fun b hb => ext_ne _ _ (by omega)⟩
theorem Lx.pre {H H0 H' : AH} {ρ ρ' : Pl} (h : Lx H H' ρ ρ') (e : H.nx = H0.nx) : Lx H0 H' ρ ρ' := ⟨h.1, by rw [← e]; exact h.2.1, fun b hb => h.2.2 b (by rw [e]; exact hb)⟩

def bs (s : List Nat) : ByteArray := ⟨(s.map UInt8.ofNat).toArray⟩

mutual
def VR (ρ : Pl) : AV → Value → Prop
  | .bool b, v => v = .bool b
  | .int k n, v => v = .int k n
  | .str s, v => v = .string (bs s) ∧ ∀ x ∈ s, x < 256
  | .ptr b o, v => ∃ L, ρ b = some L ∧ v = .pointer (some ⟨L.B, L.o + o, none⟩)
  | .nilp, v => v = .pointer none
  | .slice b o len sz cap, v => ∃ L a c, ρ b = some L ∧ v = .slice (some a) len c ∧ len ≤ c ∧
      ((cap = some c ∧ a = ⟨L.B, L.o + o, none⟩) ∨ (cap = none ∧ o + c * sz = L.x ∧ (c = 0 ∨ a = ⟨L.B, L.o + o, none⟩)))
  | .nils, v => v = .slice none 0 0
  | .func f, v => v = .func (.func f) #[] #[]
  | .clo f vs, v => ∃ cs, v = .func (.func f) #[] cs ∧ VRs ρ vs cs.toList
  | .nilf, v => v = .nilFunc
  | .nili, v => v = .nilIface
  | .iface t x, v => ∃ u, v = .iface t u ∧ VR ρ x u
  | .agg vs, v => ∃ cs, v = .agg cs ∧ VRs ρ vs cs.toList
  | .tup vs, v => ∃ cs, v = .tuple cs ∧ VRs ρ vs cs.toList
def VRs (ρ : Pl) : List AV → List Value → Prop
  | [], us => us = []
  | v :: vs, us => ∃ u us', us = u :: us' ∧ VR ρ v u ∧ VRs ρ vs us'
end

mutual
theorem VR.mono {ρ ρ' : Pl} (h : Le ρ ρ') : ∀ (v : AV) (u : Value), VR ρ v u → VR ρ' v u
  | .bool b, v, hv => by simpa [VR] using hv
  | .int k n, v, hv => by simpa [VR] using hv
  | .str s, v, hv => by simpa [VR] using hv
  | .ptr b o, v, hv => by
    simp only [VR] at hv ⊢
    obtain ⟨L, hL, e⟩ := hv
    exact ⟨L, h _ _ hL, e⟩
  | .nilp, v, hv => by simpa [VR] using hv
  | .slice b o len sz cap, v, hv => by
    simp only [VR] at hv ⊢
    obtain ⟨L, a, c, hL, e⟩ := hv
    exact ⟨L, a, c, h _ _ hL, e⟩
  | .nils, v, hv => by simpa [VR] using hv
  | .func f, v, hv => by simpa [VR] using hv
  | .clo f vs, v, hv => by
    simp only [VR] at hv ⊢
    obtain ⟨cs, e, hc⟩ := hv
    exact ⟨cs, e, VRs.mono h vs _ hc⟩
  | .nilf, v, hv => by simpa [VR] using hv
  | .nili, v, hv => by simpa [VR] using hv
  | .iface t x, v, hv => by
    simp only [VR] at hv ⊢
    obtain ⟨u, e, hu⟩ := hv
    exact ⟨u, e, VR.mono h x u hu⟩
  | .agg vs, v, hv => by
    simp only [VR] at hv ⊢
    obtain ⟨cs, e, hc⟩ := hv
    exact ⟨cs, e, VRs.mono h vs _ hc⟩
  | .tup vs, v, hv => by
    simp only [VR] at hv ⊢
    obtain ⟨cs, e, hc⟩ := hv
    exact ⟨cs, e, VRs.mono h vs _ hc⟩
theorem VRs.mono {ρ ρ' : Pl} (h : Le ρ ρ') : ∀ (vs : List AV) (us : List Value), VRs ρ vs us → VRs ρ' vs us
  | [], us, hv => by simpa [VRs] using hv
  | v :: vs, us, hv => by
    simp only [VRs] at hv ⊢
    obtain ⟨u, us', e, h1, h2⟩ := hv
    exact ⟨u, us', e, VR.mono h v u h1, VRs.mono h vs us' h2⟩
end

theorem VRs.length {ρ : Pl} : ∀ {vs : List AV} {us : List Value}, VRs ρ vs us → us.length = vs.length
  | [], us, h => by simp only [VRs] at h; subst h; rfl
  | v :: vs, us, h => by
    simp only [VRs] at h
    obtain ⟨u, us', rfl, _, h2⟩ := h
    simp [VRs.length h2]

theorem VRs.get {ρ : Pl} : ∀ {vs : List AV} {us : List Value}, VRs ρ vs us → ∀ (i : Nat) (v : AV), vs[i]? = some v → ∃ u, us[i]? = some u ∧ VR ρ v u
  | [], us, h, i, v, hi => by simp at hi
  | v :: vs, us, h, i, x, hi => by
    simp only [VRs] at h
    obtain ⟨u, us', rfl, h1, h2⟩ := h
    cases i with
    | zero => simp at hi; subst hi; exact ⟨u, rfl, h1⟩
    | succ i => simp only [List.getElem?_cons_succ] at hi ⊢; exact VRs.get h2 i x hi

theorem VRs.of_get {ρ : Pl} : ∀ {vs : List AV} {us : List Value}, us.length = vs.length → (∀ (i : Nat) (v : AV), vs[i]? = some v → ∃ u, us[i]? = some u ∧ VR ρ v u) → VRs ρ vs us
  | [], us, hl, h => by simp at hl; simp [VRs, hl]
  | v :: vs, us, hl, h => by
    simp only [VRs]
    obtain ⟨u, hu, hv⟩ := h 0 v rfl
    cases us with
    | nil => simp at hu
    | cons u' us' =>
      simp at hu; subst hu
      refine ⟨_, us', rfl, hv, VRs.of_get (by simpa using hl) fun i x hx => ?_⟩
      obtain ⟨u, h1, h2⟩ := h (i + 1) x (by simpa using hx)
      exact ⟨u, by simpa using h1, h2⟩

theorem VRs.append {ρ : Pl} {vs vs' : List AV} {us us' : List Value} (h : VRs ρ vs us) (k : VRs ρ vs' us') : VRs ρ (vs ++ vs') (us ++ us') := by
  induction vs generalizing us with
  | nil => simp only [VRs] at h; subst h; simpa using k
  | cons v vs ih =>
    simp only [VRs] at h
    obtain ⟨u, us1, rfl, h1, h2⟩ := h
    simp only [List.cons_append, VRs]
    exact ⟨u, us1 ++ us', rfl, h1, ih h2⟩

theorem VRs.take {ρ : Pl} {vs : List AV} {us : List Value} (h : VRs ρ vs us) (n : Nat) : VRs ρ (vs.take n) (us.take n) := by
  induction vs generalizing us n with
  | nil => simp only [VRs] at h; subst h; simp [VRs]
  | cons v vs ih =>
    simp only [VRs] at h
    obtain ⟨u, us1, rfl, h1, h2⟩ := h
    cases n with
    | zero => simp [VRs]
    | succ n => simp only [List.take_succ_cons, VRs]; exact ⟨u, _, rfl, h1, ih h2 n⟩

theorem VRs.drop {ρ : Pl} {vs : List AV} {us : List Value} (h : VRs ρ vs us) (n : Nat) : VRs ρ (vs.drop n) (us.drop n) := by
  induction vs generalizing us n with
  | nil => simp only [VRs] at h; subst h; simp [VRs]
  | cons v vs ih =>
    have h0 := h
    simp only [VRs] at h
    obtain ⟨u, us1, rfl, h1, h2⟩ := h
    cases n with
    | zero => simpa using h0
    | succ n => simpa using ih h2 n

/-- A flat value is the value of one cell. -/
theorem VR.flat {ρ : Pl} {v : AV} {u : Value} (h : VR ρ v u) (hf : v.flat = true) : (∀ cs, u ≠ .agg cs) ∧ (∀ cs, u ≠ .tuple cs) ∧ u.cells = #[u] := by
  cases v <;> simp only [VR] at h
  case agg => simp [AV.flat] at hf
  case tup => simp [AV.flat] at hf
  case bool => subst h; simp [Value.cells]
  case int => subst h; simp [Value.cells]
  case str => obtain ⟨rfl, _⟩ := h; simp [Value.cells]
  case ptr => obtain ⟨L, _, rfl⟩ := h; simp [Value.cells]
  case nilp => subst h; simp [Value.cells]
  case slice => obtain ⟨L, a, c, _, rfl, _⟩ := h; simp [Value.cells]
  case nils => subst h; simp [Value.cells]
  case func => subst h; simp [Value.cells]
  case clo => obtain ⟨cs, rfl, _⟩ := h; simp [Value.cells]
  case nilf => subst h; simp [Value.cells]
  case nili => subst h; simp [Value.cells]
  case iface => obtain ⟨u, rfl, _⟩ := h; simp [Value.cells]

theorem VR.cells {ρ : Pl} {v : AV} {u : Value} (h : VR ρ v u) : VRs ρ v.cells u.cells.toList := by
  cases v
  case agg vs => simp only [VR] at h; obtain ⟨cs, rfl, hc⟩ := h; simpa [AV.cells, Value.cells] using hc
  case tup vs =>
    have h0 := h
    simp only [VR] at h
    obtain ⟨cs, rfl, hc⟩ := h
    simp only [AV.cells, Value.cells, VRs]
    exact ⟨_, [], rfl, h0, rfl⟩
  all_goals
    have e := (VR.flat h rfl).2.2
    rw [e]
    simp only [AV.cells, VRs]
    exact ⟨_, [], rfl, h, rfl⟩

/-- No number of either range is the other's. -/
def Dis (a b c d : Nat) : Prop := ∀ i, a ≤ i → i < b → c ≤ i → i < d → False

/-- No cell of the world's block is frozen (what lies behind its end may be marked). -/
def NF (w : World) (B : Nat) : Prop := ∀ c e lo hi, w.heap[B]? = some (.cells c e (lo, hi)) → lo = hi ∨ c.size ≤ lo

theorem NF.frozen {w : World} {B i : Nat} (h : NF w B) (hc : ∃ u, w.cell? ⟨B, i, none⟩ = some u) : w.frozen? ⟨B, i, none⟩ = false := by
  obtain ⟨u, hu⟩ := hc
  simp only [World.cell?, World.frozen?] at hu ⊢
  split at hu
  · rename_i c e fr hx
    obtain ⟨lo, hi⟩ := fr
    rw [hx]
    simp only at hu ⊢
    have hlt : i < c.size := by
      simp only [Option.isSome_none, Bool.false_eq_true, if_false] at hu
      exact (Array.getElem?_eq_some_iff.1 hu).1
    have := h c e lo hi hx
    simp only [Bool.and_eq_false_iff, decide_eq_false_iff_not]
    omega
  · cases hu

theorem NF.push {w : World} {B : Nat} (h : NF w B) (o : Obj) (hB : B < w.heap.size) : NF { w with heap := w.heap.push o } B := by
  intro c e lo hi hx
  rw [Array.getElem?_push, if_neg (by omega)] at hx
  exact h c e lo hi hx
theorem NF.new (w : World) (c : Array Value) (e : TypeId) (fr : Nat × Nat) (h : fr.1 = fr.2 ∨ c.size ≤ fr.1) : NF { w with heap := w.heap.push (.cells c e fr) } w.heap.size := by
  intro c' e' lo hi hx
  simp only [Array.getElem?_push_size, Option.some.injEq, Obj.cells.injEq] at hx
  obtain ⟨rfl, rfl, rfl⟩ := hx
  exact h
theorem NF.setCell {w : World} {B : Nat} (h : NF w B) (a : Addr) (v : Value) : NF (w.setCell a v) B := by
  intro c e lo hi hx
  simp only [World.setCell, Array.getElem?_modify] at hx
  split at hx
  · cases hb : w.heap[B]? with
    | none => rw [hb] at hx; cases hx
    | some o =>
      rw [hb] at hx
      cases o <;> simp only [Option.map_some, Option.some.injEq, Obj.cells.injEq, reduceCtorEq] at hx
      rename_i c0 e0 f0
      obtain ⟨h1, rfl, rfl⟩ := hx
      have := h c0 _ lo hi hb
      rw [← h1]
      split
      · exact this
      · simpa using this
  · exact h c e lo hi hx

/-- The world's block is a row of cells of this type, and the place reaches to its end. -/
def Ty (w : World) (L : Loc) (e : TypeId) : Prop := L.o = 0 ∧ ∃ c f, w.heap[L.B]? = some (.cells c e f) ∧ c.size = L.x

theorem Ty.push {w : World} {L : Loc} {e : TypeId} (h : Ty w L e) (o : Obj) : Ty { w with heap := w.heap.push o } L e := by
  obtain ⟨h0, c, f, h1, h2⟩ := h
  have hlt : L.B < w.heap.size := (Array.getElem?_eq_some_iff.1 h1).1
  refine ⟨h0, c, f, ?_, h2⟩
  simp only
  rw [Array.getElem?_push, if_neg (by omega)]; exact h1

theorem Ty.new (w : World) (c : Array Value) (e : TypeId) (fr : Nat × Nat) : Ty { w with heap := w.heap.push (.cells c e fr) } ⟨w.heap.size, 0, c.size⟩ e :=
  ⟨rfl, c, fr, by simp, rfl⟩

theorem Ty.setCell {w : World} {L : Loc} {e : TypeId} (h : Ty w L e) (a : Addr) (v : Value) : Ty (w.setCell a v) L e := by
  obtain ⟨h0, c, f, h1, h2⟩ := h
  by_cases hb : a.block = L.B
  · refine ⟨h0, if a.spot.isSome then c else c.setIfInBounds a.off v, f, ?_, ?_⟩
    · simp only [World.setCell, Array.getElem?_modify]
      rw [if_pos hb, h1]; rfl
    · split
      · exact h2
      · simpa using h2
  · refine ⟨h0, c, f, ?_, h2⟩
    simp only [World.setCell, Array.getElem?_modify]
    rw [if_neg hb]; exact h1

theorem Ty.freeze {w : World} {L : Loc} {e : TypeId} (h : Ty w L e) (a : Addr) (n : Nat) : Ty (w.freeze a n) L e := by
  obtain ⟨h0, c, f, h1, h2⟩ := h
  unfold World.freeze
  split
  · exact ⟨h0, c, f, h1, h2⟩
  · by_cases hb : a.block = L.B
    · obtain ⟨lo, hi⟩ := f
      refine ⟨h0, c, if lo == hi then (a.off, a.off + n) else (min lo a.off, max hi (a.off + n)), ?_, h2⟩
      simp only [Array.getElem?_modify]
      rw [if_pos hb, h1]; rfl
    · refine ⟨h0, c, f, ?_, h2⟩
      simp only [Array.getElem?_modify]
      rw [if_neg hb]; exact h1

structure Blk (N : Nat) (ρ : Pl) (ab : AB) (L : Loc) (w : World) : Prop where
  here : L.B < w.heap.size
  len : ab.cells.length ≤ L.x
  cell : ∀ i v, ab.cells[i]? = some v → ∃ u, w.cell? ⟨L.B, L.o + i, none⟩ = some u ∧ VR ρ v u
  room : ∀ i, i < L.x → ∃ u, w.cell? ⟨L.B, L.o + i, none⟩ = some u
  own : ab.w = true ∨ ab.t = true → N ≤ L.B ∧ NF w L.B
  flat : ∀ v ∈ ab.cells, v.flat = true
  ty : ∀ e, ab.ty = some e → Ty w L e

structure Rel (N : Nat) (ρ : Pl) (H : AH) (w : World) : Prop where
  base : N ≤ w.heap.size
  fresh : ∀ b, H.nx ≤ b → ρ b = none
  ids : ∀ b ab, H.m.get b = some ab → b < H.nx ∧ ∀ c ∈ ab.anc, c < H.nx
  kid : ∀ b c ab ac, H.m.get b = some ab → c ∈ ab.anc → H.m.get c = some ac → ac.w = false ∧ ac.t = false
  blk : ∀ b ab L, H.m.get b = some ab → ρ b = some L → Blk N ρ ab L w
  sep : ∀ b c ab ac L M, b ≠ c → H.m.get b = some ab → H.m.get c = some ac → ρ b = some L → ρ c = some M → L.B = M.B →
    (ab.w = true → c ∉ ab.anc → Dis L.o (L.o + ab.cells.length) M.o (M.o + ac.cells.length)) ∧
    (ab.t = true → Dis (L.o + ab.cells.length) (L.o + L.x) M.o (M.o + ac.cells.length)) ∧
    (ab.t = true → ac.t = true → Dis (L.o + ab.cells.length) (L.o + L.x) (M.o + ac.cells.length) (M.o + M.x))
  one : ∀ b c ab ac L M, b ≠ c → H.m.get b = some ab → H.m.get c = some ac → ρ b = some L → ρ c = some M → L.B = M.B → (ab.w = true ∨ ab.t = true) → (ac.w = true ∨ ac.t = true) → False

/-! ### The world's side -/
theorem cell_push_old (w : World) (o : Obj) (a : Addr) (h : a.block < w.heap.size) : ({ w with heap := w.heap.push o } : World).cell? a = w.cell? a := by
  simp only [World.cell?]
  rw [Array.getElem?_push, if_neg (by omega)]
theorem frozen_push_old (w : World) (o : Obj) (a : Addr) (h : a.block < w.heap.size) : ({ w with heap := w.heap.push o } : World).frozen? a = w.frozen? a := by
  simp only [World.frozen?]
  rw [Array.getElem?_push, if_neg (by omega)]
theorem cell_push_new (w : World) (c : Array Value) (e : TypeId) (fr : Nat × Nat) (i : Nat) : ({ w with heap := w.heap.push (.cells c e fr) } : World).cell? ⟨w.heap.size, i, none⟩ = c[i]? := by
  simp [World.cell?]
theorem frozen_push_new (w : World) (c : Array Value) (e : TypeId) (fr : Nat × Nat) (i : Nat) (h : ¬ (fr.1 ≤ i ∧ i < fr.2)) :
    ({ w with heap := w.heap.push (.cells c e fr) } : World).frozen? ⟨w.heap.size, i, none⟩ = false := by
  obtain ⟨lo, hi⟩ := fr
  simp only [World.frozen?, Array.getElem?_push_size]
  simp only [Bool.and_eq_false_iff, decide_eq_false_iff_not]
  simp only at h
  omega

theorem cell_block {w : World} {B i : Nat} {u : Value} (h : w.cell? ⟨B, i, none⟩ = some u) : B < w.heap.size := by
  simp only [World.cell?] at h
  split at h
  · rename_i c _ _ hc
    exact (Array.getElem?_eq_some_iff.1 hc).1
  · cases h

theorem setCell_size (w : World) (a : Addr) (v : Value) : (w.setCell a v).heap.size = w.heap.size := by simp [World.setCell]
theorem frozen_setCell (w : World) (a b : Addr) (v : Value) : (w.setCell a v).frozen? b = w.frozen? b := World.frozen?_setCell _ _ _ _
theorem cell_setCell_ne (w : World) (B i C j : Nat) (v : Value) (h : ¬ (B = C ∧ i = j)) : (w.setCell ⟨B, i, none⟩ v).cell? ⟨C, j, none⟩ = w.cell? ⟨C, j, none⟩ := by
  simp only [World.cell?, World.setCell, Array.getElem?_modify]
  by_cases hb : B = C
  · subst hb
    have hi : i ≠ j := fun e => h ⟨rfl, e⟩
    rw [if_pos rfl]
    cases hx : w.heap[B]? with
    | none => simp
    | some o => cases o <;> simp [Array.getElem?_setIfInBounds_ne hi]
  · rw [if_neg hb]
theorem cell_setCell_same (w : World) (B i : Nat) (v u : Value) (h : w.cell? ⟨B, i, none⟩ = some u) : (w.setCell ⟨B, i, none⟩ v).cell? ⟨B, i, none⟩ = some v := by
  simp only [World.cell?, World.setCell, Array.getElem?_modify, if_true] at h ⊢
  cases hx : w.heap[B]? with
  | none => rw [hx] at h; simp at h
  | some o =>
    rw [hx] at h
    cases o <;> simp at h ⊢
    rename_i c e f
    have hlt : i < c.size := (Array.getElem?_eq_some_iff.1 h).1
    simp [Array.getElem?_setIfInBounds, hlt]

/-- Several cells, one behind the other, are written. -/
def putCells (w : World) (B o : Nat) : List Value → World
  | [] => w
  | u :: us => putCells (w.setCell ⟨B, o, none⟩ u) B (o + 1) us

theorem putCells_size (B : Nat) : ∀ (us : List Value) (o : Nat) (w : World), (putCells w B o us).heap.size = w.heap.size
  | [], o, w => rfl
  | u :: us, o, w => by rw [putCells, putCells_size B us, setCell_size]
theorem putCells_frozen (B : Nat) (a : Addr) : ∀ (us : List Value) (o : Nat) (w : World), (putCells w B o us).frozen? a = w.frozen? a
  | [], o, w => rfl
  | u :: us, o, w => by rw [putCells, putCells_frozen B a us, frozen_setCell]
theorem NF.putCells {C : Nat} (B : Nat) : ∀ (us : List Value) (o : Nat) {w : World}, NF w C → NF (putCells w B o us) C
  | [], o, w, h => h
  | u :: us, o, w, h => NF.putCells B us (o + 1) (h.setCell ⟨B, o, none⟩ u)
theorem Ty.putCells {L : Loc} {e : TypeId} (B : Nat) : ∀ (us : List Value) (o : Nat) {w : World}, Ty w L e → Ty (putCells w B o us) L e
  | [], _, _, h => h
  | _ :: us, _, _, h => Ty.putCells B us _ (h.setCell _ _)
theorem putCells_out (B C j : Nat) : ∀ (us : List Value) (o : Nat) (w : World), (B = C → j < o ∨ o + us.length ≤ j) → (putCells w B o us).cell? ⟨C, j, none⟩ = w.cell? ⟨C, j, none⟩
  | [], o, w, h => rfl
  | u :: us, o, w, h => by
    rw [putCells, putCells_out B C j us (o + 1) _ (fun e => by have := h e; simp only [List.length_cons] at this; omega)]
    exact cell_setCell_ne w B o C j u (fun ⟨e, e'⟩ => by have := h e; simp only [List.length_cons] at this; omega)
theorem putCells_in (B : Nat) : ∀ (us : List Value) (o : Nat) (w : World), (∀ i, i < us.length → ∃ u, w.cell? ⟨B, o + i, none⟩ = some u) →
    ∀ (i : Nat) (u : Value), us[i]? = some u → (putCells w B o us).cell? ⟨B, o + i, none⟩ = some u
  | [], o, w, h, i, u, hu => by simp at hu
  | v :: us, o, w, h, i, u, hu => by
    rw [putCells]
    have h0 : ∃ u, w.cell? ⟨B, o, none⟩ = some u := by simpa using h 0 (by simp)
    obtain ⟨u0, h0⟩ := h0
    cases i with
    | zero =>
      simp at hu; subst hu
      rw [putCells_out B B _ us (o + 1) _ (fun _ => .inl (by omega))]
      exact cell_setCell_same w B o _ u0 h0
    | succ i =>
      have := putCells_in B us (o + 1) (w.setCell ⟨B, o, none⟩ v) (fun k hk => by
        obtain ⟨x, hx⟩ := h (k + 1) (by simp; omega)
        refine ⟨x, ?_⟩
        rw [cell_setCell_ne _ _ _ _ _ _ (fun ⟨_, e⟩ => by omega)]
        rw [show o + 1 + k = o + (k + 1) by omega]; exact hx) i u (by simpa using hu)
      rw [show o + (i + 1) = o + 1 + i by omega]; exact this
theorem putCells_some (B C j : Nat) : ∀ (us : List Value) (o : Nat) (w : World), (∃ u, w.cell? ⟨C, j, none⟩ = some u) → ∃ u, (putCells w B o us).cell? ⟨C, j, none⟩ = some u
  | [], o, w, h => h
  | v :: us, o, w, h => by
    rw [putCells]
    refine putCells_some B C j us (o + 1) _ ?_
    by_cases hc : B = C ∧ o = j
    · obtain ⟨rfl, rfl⟩ := hc
      obtain ⟨u, hu⟩ := h
      exact ⟨_, cell_setCell_same w _ _ v u hu⟩
    · rw [cell_setCell_ne _ _ _ _ _ _ hc]; exact h
theorem putCells_below (N B : Nat) (hB : N ≤ B) : ∀ (us : List Value) (o : Nat) (w0 w : World), Below N w0 w → Below N w0 (putCells w B o us)
  | [], o, w0, w, h => h
  | u :: us, o, w0, w, h => by rw [putCells]; exact putCells_below N B hB us _ _ _ (h.setCell (p := ⟨B, o, none⟩) hB u)

theorem below_push (N : Nat) {w0 w : World} (h : Below N w0 w) (hN : N ≤ w.heap.size) (o : Obj) : Below N w0 { w with heap := w.heap.push o } := h.alloc hN o

/-! ### The steps of the abstract heap -/
section
variable {N : Nat} {ρ : Pl} {H H' : AH} {w : World}

theorem put_get {b : Nat} {x : Option AB} (h : H.put b x = some H') : H'.nx = H.nx ∧ ∀ m, H'.m.get m = if m = b then x else H.m.get m := by
  unfold AH.put at h
  split at h
  · rename_i m hm
    cases h
    exact ⟨rfl, PT.get_set 64 _ _ _ _ hm⟩
  · cases h
theorem new_get {x : AB} (h : H.new x = some H') : H'.nx = H.nx + 1 ∧ ∀ m, H'.m.get m = if m = H.nx then some x else H.m.get m := by
  unfold AH.new at h
  split at h
  · rename_i m hm
    cases h
    exact ⟨rfl, PT.get_set 64 _ _ _ _ hm⟩
  · cases h

/-- A block is lost. -/
theorem Rel.lose (h : Rel N ρ H w) {b : Nat} (hp : H.put b none = some H') : Rel N ρ H' w := by
  obtain ⟨hn, hg⟩ := put_get hp
  have key : ∀ m x, H'.m.get m = some x → H.m.get m = some x := by
    intro m x hm
    rw [hg] at hm
    split at hm
    · cases hm
    · exact hm
  exact {
    base := h.base
    fresh := by rw [hn]; exact h.fresh
    ids := by rw [hn]; exact fun b ab hb => h.ids b ab (key _ _ hb)
    kid := fun b c ab ac hb hc hac => h.kid b c ab ac (key _ _ hb) hc (key _ _ hac)
    blk := fun b ab L hb hL => h.blk b ab L (key _ _ hb) hL
    sep := fun b c ab ac L M hne hb hc => h.sep b c ab ac L M hne (key _ _ hb) (key _ _ hc)
    one := fun b c ab ac L M hne hb hc => h.one b c ab ac L M hne (key _ _ hb) (key _ _ hc) }

theorem Rel.lose_all : ∀ {l : List Nat} {H : AH}, Rel N ρ H w → H.drop l = some H' → Rel N ρ H' w ∧ H'.nx = H.nx ∧ (∀ m, m ∈ l → H'.m.get m = none) ∧
    (∀ m, H'.m.get m = none ∨ H'.m.get m = H.m.get m) ∧ ∀ m, m ∉ l → H'.m.get m = H.m.get m
  | [], H, h, hd => by
    cases hd
    exact ⟨h, rfl, fun m hm => (by cases hm), fun m => .inr rfl, fun m _ => rfl⟩
  | b :: l, H, h, hd => by
    simp only [AH.drop] at hd
    cases hp : H.put b none with
    | none => rw [hp] at hd; cases hd
    | some H1 =>
      rw [hp] at hd
      obtain ⟨hn, hg⟩ := put_get hp
      obtain ⟨h1, h2, h3, h4, h5⟩ := Rel.lose_all (h.lose hp) hd
      refine ⟨h1, h2.trans hn, ?_, ?_, ?_⟩
      · intro m hm
        rcases h4 m with h | h
        · exact h
        · by_cases hml : m ∈ l
          · exact h3 m hml
          · have : m = b := by cases hm with | head => rfl | tail _ hm => exact absurd hm hml
            rw [h, hg, if_pos this]
      · intro m
        rcases h4 m with h | h
        · exact .inl h
        · rw [h, hg]
          split
          · exact .inl rfl
          · exact .inr rfl
      · intro m hm
        rw [h5 m (fun hml => hm (.tail _ hml)), hg, if_neg (fun e => hm (by rw [e]; exact .head _))]

/-- A new block, at the world's end. -/
theorem Rel.new (h : Rel N ρ H w) {x : AB} (hn : H.new x = some H')
    (hanc : ∀ c ∈ x.anc, c < H.nx ∧ ∀ ac, H.m.get c = some ac → ac.w = false ∧ ac.t = false) (c : Array Value) (e : TypeId) (fr : Nat × Nat)
    (hfr : fr.1 = fr.2 ∨ c.size ≤ fr.1) (hle : x.cells.length ≤ c.size)
    (hv : ∀ (i : Nat) (v : AV), x.cells[i]? = some v → ∃ u, c[i]? = some u ∧ VR ρ v u) (hf : ∀ v ∈ x.cells, v.flat = true)
    (hty : ∀ e', x.ty = some e' → e' = e) :
    Rel N (ext ρ H.nx ⟨w.heap.size, 0, c.size⟩) H' { w with heap := w.heap.push (.cells c e fr) } := by
  obtain ⟨hnx, hg⟩ := new_get hn
  have hfresh := h.fresh H.nx (Nat.le_refl _)
  have hLe := Le.ext (⟨w.heap.size, 0, c.size⟩ : Loc) hfresh
  have old : ∀ b ab, b ≠ H.nx → H'.m.get b = some ab → H.m.get b = some ab := by
    intro b ab hb hm; rw [hg, if_neg hb] at hm; exact hm
  exact {
    base := by simp only [Array.size_push]; have := h.base; omega
    fresh := by
      intro b hb
      rw [hnx] at hb
      rw [ext_ne _ _ (by omega)]
      exact h.fresh b (by omega)
    ids := by
      intro b ab hb
      rw [hnx]
      by_cases e : b = H.nx
      · subst e
        rw [hg, if_pos rfl] at hb
        cases hb
        exact ⟨by omega, fun c hc => by have := (hanc c hc).1; omega⟩
      · obtain ⟨h1, h2⟩ := h.ids b ab (old _ _ e hb)
        exact ⟨by omega, fun c hc => by have := h2 c hc; omega⟩
    kid := by
      intro b c ab ac hb hc hac
      by_cases e : b = H.nx
      · subst e
        rw [hg, if_pos rfl] at hb
        cases hb
        obtain ⟨h1, h2⟩ := hanc c hc
        exact h2 ac (old _ _ (by omega) hac)
      · have hb' := old _ _ e hb
        have := (h.ids b ab hb').2 c hc
        exact h.kid b c ab ac hb' hc (old _ _ (by omega) hac)
    blk := by
      intro b ab L hb hL
      by_cases e : b = H.nx
      · subst e
        rw [hg, if_pos rfl] at hb
        cases hb
        rw [ext_same] at hL
        cases hL
        refine { here := by simp, len := hle, cell := ?_, room := ?_, own := ?_, flat := hf, ty := fun e' he' => (by rw [hty e' he']; exact Ty.new w c e _) }
        · intro i v hi
          obtain ⟨u, h1, h2⟩ := hv i v hi
          refine ⟨u, ?_, h2.mono hLe⟩
          simp only [Nat.zero_add]
          rw [cell_push_new]; exact h1
        · intro i hi
          simp only [Nat.zero_add]
          rw [cell_push_new]
          exact ⟨_, Array.getElem?_eq_getElem hi⟩
        · intro _
          exact ⟨h.base, NF.new w c _ fr hfr⟩
      · have hb' := old _ _ e hb
        rw [ext_ne _ _ e] at hL
        have k := h.blk b ab L hb' hL
        refine { here := by simp only [Array.size_push]; have := k.here; omega, len := k.len, cell := ?_, room := ?_, own := ?_, flat := k.flat, ty := fun e' he' => (k.ty e' he').push _ }
        · intro i v hi
          obtain ⟨u, h1, h2⟩ := k.cell i v hi
          exact ⟨u, by rw [cell_push_old _ _ _ k.here]; exact h1, h2.mono hLe⟩
        · intro i hi
          obtain ⟨u, h1⟩ := k.room i hi
          exact ⟨u, by rw [cell_push_old _ _ _ k.here]; exact h1⟩
        · intro ho
          obtain ⟨h1, h2⟩ := k.own ho
          exact ⟨h1, h2.push _ k.here⟩
    sep := by
      intro b c ab ac L M hne hb hc hL hM hB
      by_cases e : b = H.nx
      · by_cases e' : c = H.nx
        · exact absurd (e.trans e'.symm) hne
        · exfalso
          subst e
          rw [ext_same] at hL
          cases hL
          rw [ext_ne _ _ e'] at hM
          have := (h.blk c ac M (old _ _ e' hc) hM).here
          simp only at hB
          omega
      · rw [ext_ne _ _ e] at hL
        by_cases e' : c = H.nx
        · exfalso
          subst e'
          rw [ext_same] at hM
          cases hM
          have := (h.blk b ab L (old _ _ e hb) hL).here
          simp only at hB
          omega
        · rw [ext_ne _ _ e'] at hM
          exact h.sep b c ab ac L M hne (old _ _ e hb) (old _ _ e' hc) hL hM hB
    one := by
      intro b c ab ac L M hne hb hc hL hM hB
      by_cases e : b = H.nx
      · by_cases e' : c = H.nx
        · exact absurd (e.trans e'.symm) hne
        · exfalso
          subst e
          rw [ext_same] at hL
          cases hL
          rw [ext_ne _ _ e'] at hM
          have := (h.blk c ac M (old _ _ e' hc) hM).here
          simp only at hB
          omega
      · rw [ext_ne _ _ e] at hL
        by_cases e' : c = H.nx
        · exfalso
          subst e'
          rw [ext_same] at hM
          cases hM
          have := (h.blk b ab L (old _ _ e hb) hL).here
          simp only at hB
          omega
        · rw [ext_ne _ _ e'] at hM
          exact h.one b c ab ac L M hne (old _ _ e hb) (old _ _ e' hc) hL hM hB }

/-- A block may no longer be written, nor what lies behind it. -/
theorem Rel.shut (h : Rel N ρ H w) {b : Nat} {ab : AB} (hb : H.m.get b = some ab) (hp : H.put b (some ⟨ab.cells, false, false, ab.anc, ab.ty⟩) = some H') : Rel N ρ H' w := by
  obtain ⟨hn, hg⟩ := put_get hp
  have key : ∀ m x, H'.m.get m = some x → ∃ y, H.m.get m = some y ∧ x.cells = y.cells ∧ x.anc = y.anc ∧ (x.w = true → y.w = true) ∧ (x.t = true → y.t = true) ∧ x.ty = y.ty := by
    intro m x hm
    rw [hg] at hm
    split at hm
    · rename_i e
      subst e
      cases hm
      exact ⟨ab, hb, rfl, rfl, fun h => (by cases h), fun h => (by cases h), rfl⟩
    · exact ⟨x, hm, rfl, rfl, id, id, rfl⟩
  have no : ∀ (x y : Bool), (x = true → y = true) → y = false → x = false := by decide
  exact {
    base := h.base
    fresh := by rw [hn]; exact h.fresh
    ids := by
      rw [hn]
      intro m x hm
      obtain ⟨y, hy, _, ha, _⟩ := key m x hm
      rw [ha]; exact h.ids m y hy
    kid := by
      intro m c x z hm hc hz
      obtain ⟨y, hy, _, ha, _⟩ := key m x hm
      obtain ⟨y', hy', _, _, hw, ht, _⟩ := key c z hz
      obtain ⟨h1, h2⟩ := h.kid m c y y' hy (ha ▸ hc) hy'
      exact ⟨no _ _ hw h1, no _ _ ht h2⟩
    blk := by
      intro m x L hm hL
      obtain ⟨y, hy, hc, _, hw, ht, hty⟩ := key m x hm
      have k := h.blk m y L hy hL
      exact { here := k.here, len := hc ▸ k.len, cell := hc ▸ k.cell, room := k.room, own := fun ho => k.own (ho.imp hw ht), flat := hc ▸ k.flat, ty := fun e he => k.ty e (hty ▸ he) }
    sep := by
      intro m c x z L M hne hm hz hL hM hB
      obtain ⟨y, hy, hc, ha, hw, ht, _⟩ := key m x hm
      obtain ⟨y', hy', hc', _, _, ht', _⟩ := key c z hz
      obtain ⟨s1, s2, s3⟩ := h.sep m c y y' L M hne hy hy' hL hM hB
      rw [hc, hc', ha]
      exact ⟨fun a b => s1 (hw a) b, fun a => s2 (ht a), fun a b => s3 (ht a) (ht' b)⟩
    one := by
      intro m c x z L M hne hm hz hL hM hB h1 h2
      obtain ⟨y, hy, hc, ha, hw, ht, _⟩ := key m x hm
      obtain ⟨y', hy', hc', _, hw', ht', _⟩ := key c z hz
      exact h.one m c y y' L M hne hy hy' hL hM hB (h1.imp hw ht) (h2.imp hw' ht') }

theorem Blk.put {ab : AB} {L : Loc} (k : Blk N ρ ab L w) {B p : Nat} {us : List Value}
    (hd : L.B = B → Dis p (p + us.length) L.o (L.o + ab.cells.length)) : Blk N ρ ab L (putCells w B p us) := by
  refine { here := by rw [putCells_size]; exact k.here, len := k.len, cell := ?_, room := ?_, own := ?_, flat := k.flat, ty := fun e he => (k.ty e he).putCells B us p }
  · intro i v hi
    obtain ⟨u, h1, h2⟩ := k.cell i v hi
    refine ⟨u, ?_, h2⟩
    rw [putCells_out]
    · exact h1
    · intro e
      have hlt : i < ab.cells.length := (List.getElem?_eq_some_iff.1 hi).1
      refine Classical.byContradiction fun hn => ?_
      exact hd e.symm (L.o + i) (by omega) (by omega) (by omega) (by omega)
  · intro i hi
    exact putCells_some B L.B (L.o + i) us p w (k.room i hi)
  · intro ho
    obtain ⟨h1, h2⟩ := k.own ho
    exact ⟨h1, h2.putCells B us p⟩

theorem splice_length {l : List AV} {o : Nat} {vs : List AV} (h : o + vs.length ≤ l.length) : (splice l o vs).length = l.length := by
  simp [splice]; omega
theorem splice_get {l : List AV} {o : Nat} {vs : List AV} (h : o + vs.length ≤ l.length) (i : Nat) :
    (splice l o vs)[i]? = if o ≤ i ∧ i < o + vs.length then vs[i - o]? else l[i]? := by
  unfold splice
  have ht : (l.take o).length = o := by simp; omega
  by_cases h1 : i < o
  · rw [if_neg (by omega), List.append_assoc, List.getElem?_append_left (by omega), List.getElem?_take, if_pos h1]
  · by_cases h2 : i < o + vs.length
    · rw [if_pos ⟨by omega, h2⟩, List.append_assoc, List.getElem?_append_right (by omega), List.getElem?_append_left (by omega), ht]
    · rw [if_neg (by omega), List.append_assoc, List.getElem?_append_right (by omega), List.getElem?_append_right (by omega), ht, List.getElem?_drop]
      congr 1
      omega
theorem splice_flat {l : List AV} {o : Nat} {vs : List AV} (hl : ∀ v ∈ l, v.flat = true) (hv : ∀ v ∈ vs, v.flat = true) : ∀ v ∈ splice l o vs, v.flat = true := by
  intro v hv'
  simp only [splice, List.mem_append] at hv'
  rcases hv' with (h | h) | h
  · exact hl v (List.mem_of_mem_take h)
  · exact hv v h
  · exact hl v (List.mem_of_mem_drop h)

/-- Cells of a block of the machine's own are written. -/
theorem Rel.write (h : Rel N ρ H w) {b o : Nat} {vs : List AV} (hw : H.write b o vs = some H') {L : Loc} (hL : ρ b = some L) {us : List Value} (hv : VRs ρ vs us) :
    Rel N ρ H' (putCells w L.B (L.o + o) us) ∧ N ≤ L.B ∧
    (∀ i, i < us.length → (∃ u, w.cell? ⟨L.B, L.o + o + i, none⟩ = some u) ∧ w.frozen? ⟨L.B, L.o + o + i, none⟩ = false) ∧ (∀ v ∈ vs, v.flat = true) ∧ H'.nx = H.nx := by
  unfold AH.write at hw
  split at hw
  case h_2 => cases hw
  rename_i ab hab
  split at hw
  case h_2 => cases hw
  rename_i hc
  simp only [Bool.and_eq_true, Nat.ble_eq, List.all_eq_true] at hc
  obtain ⟨⟨hown, hlen⟩, hflat⟩ := hc
  split at hw
  case h_2 => cases hw
  rename_i H1 hd
  obtain ⟨r1, hn1, hgone, heither, hkeep⟩ := h.lose_all hd
  have hul := hv.length
  have k := h.blk b ab L hab hL
  obtain ⟨hN, hfz⟩ := k.own (.inl hown)
  have hbanc : b ∉ ab.anc := by
    intro hm
    have := (h.kid b b ab ab hab hm hab).1
    rw [hown] at this; cases this
  have hb1 : H1.m.get b = some ab := by rw [hkeep b hbanc]; exact hab
  obtain ⟨hn2, hg⟩ := put_get hw
  have hlenx := k.len
  have sepb : ∀ c ac M, c ≠ b → H1.m.get c = some ac → ρ c = some M → M.B = L.B → Dis L.o (L.o + ab.cells.length) M.o (M.o + ac.cells.length) := by
    intro c ac M hne hc hM hB
    have hc0 : c ∉ ab.anc := fun hm => by rw [hgone c hm] at hc; cases hc
    exact (r1.sep b c ab ac L M (fun e => hne e.symm) hb1 hc hL hM hB.symm).1 hown hc0
  refine ⟨?_, hN, ?_, hflat, by omega⟩
  · exact {
      base := by rw [putCells_size]; exact h.base
      fresh := by rw [hn2]; exact r1.fresh
      ids := by
        intro c ac hc
        rw [hn2]
        rw [hg] at hc
        split at hc
        · rename_i e
          subst e
          cases hc
          exact ⟨(r1.ids c ab hb1).1, fun x hx => by cases hx⟩
        · exact r1.ids c ac hc
      kid := by
        intro c d ac ad hc hd' had
        rw [hg] at hc
        split at hc
        · cases hc; cases hd'
        · rw [hg] at had
          split at had
          · rename_i e
            subst e
            cases had
            have := (r1.kid c d ac ab hc hd' hb1).1
            rw [hown] at this; cases this
          · exact r1.kid c d ac ad hc hd' had
      blk := by
        intro c ac M hc hM
        rw [hg] at hc
        split at hc
        · rename_i e
          subst e
          cases hc
          rw [hL] at hM
          cases hM
          have hsl := splice_length hlen
          refine { here := by rw [putCells_size]; exact k.here, len := by simp only; rw [hsl]; exact k.len, cell := ?_, room := ?_, own := ?_, flat := splice_flat k.flat hflat, ty := fun e he => (k.ty e he).putCells _ us _ }
          · intro i v hi
            simp only at hi
            rw [splice_get hlen] at hi
            split at hi
            · rename_i hr
              obtain ⟨u, h1, h2⟩ := hv.get _ _ hi
              refine ⟨u, ?_, h2⟩
              have := putCells_in L.B us (L.o + o) w (fun j hj => by
                have := k.room (o + j) (by omega)
                rw [Nat.add_assoc]; exact this) (i - o) u h1
              rw [show L.o + o + (i - o) = L.o + i by omega] at this
              exact this
            · rename_i hr
              obtain ⟨u, h1, h2⟩ := k.cell i v hi
              refine ⟨u, ?_, h2⟩
              rw [putCells_out]
              · exact h1
              · intro _; omega
          · intro i hi
            exact putCells_some _ _ _ us _ w (k.room i hi)
          · intro _
            exact ⟨hN, hfz.putCells _ us _⟩
        · rename_i e
          refine (r1.blk c ac M hc hM).put fun hB => ?_
          have := sepb c ac M e hc hM hB
          intro i h1 h2 h3 h4
          exact this i (by omega) (by omega) h3 h4
      sep := by
        intro c d ac ad M K hne hc hd' hM hK hB
        rw [hg] at hc hd'
        have hsl := splice_length hlen
        split at hc
        · rename_i e
          subst e
          cases hc
          rw [if_neg (fun e => hne e.symm)] at hd'
          obtain ⟨s1, s2, s3⟩ := r1.sep c d ab ad M K hne hb1 hd' hM hK hB
          simp only [hsl]
          rw [hL] at hM
          cases hM
          exact ⟨fun _ _ => sepb d ad K (fun e => hne e.symm) hd' hK hB.symm, s2, s3⟩
        · rename_i e
          split at hd'
          · rename_i e'
            subst e'
            cases hd'
            obtain ⟨s1, s2, s3⟩ := r1.sep c d ac ab M K hne hc hb1 hM hK hB
            simp only [hsl]
            exact ⟨s1, s2, s3⟩
          · exact r1.sep c d ac ad M K hne hc hd' hM hK hB
      one := by
        intro c d ac ad M K hne hc hd' hM hK hB h1 h2
        have same : ∀ x y, H'.m.get x = some y → ∃ z, H1.m.get x = some z ∧ ((y.w = true ∨ y.t = true) → (z.w = true ∨ z.t = true)) := by
          intro x y hx
          rw [hg] at hx
          split at hx
          · rename_i e
            subst e
            exact ⟨ab, hb1, fun _ => .inl hown⟩
          · exact ⟨y, hx, id⟩
        obtain ⟨x1, k1, k2⟩ := same c ac hc
        obtain ⟨x2, k3, k4⟩ := same d ad hd'
        exact r1.one c d x1 x2 M K hne k1 k3 hM hK hB (k2 h1) (k4 h2) }
  · intro i hi
    rw [Nat.add_assoc]
    exact ⟨k.room (o + i) (by omega), hfz.frozen (k.room (o + i) (by omega))⟩

/-- Cells are written where no block lies. -/
theorem Rel.putFree (h : Rel N ρ H w) {B p : Nat} {us : List Value}
    (hd : ∀ c ac M, H.m.get c = some ac → ρ c = some M → M.B = B → Dis p (p + us.length) M.o (M.o + ac.cells.length)) : Rel N ρ H (putCells w B p us) :=
  { base := by rw [putCells_size]; exact h.base, fresh := h.fresh, ids := h.ids, kid := h.kid,
    blk := fun b ab L hb hL => (h.blk b ab L hb hL).put (hd b ab L hb hL), sep := h.sep, one := h.one }

/-- A new block is laid where cells are already. -/
theorem Rel.place (h : Rel N ρ H w) {x : AB} {K : Loc} (hn : H.new x = some H')
    (hanc : ∀ c ∈ x.anc, c < H.nx ∧ ∀ ac, H.m.get c = some ac → ac.w = false ∧ ac.t = false) (hk : Blk N ρ x K w)
    (hP : ∀ c ac M, H.m.get c = some ac → ρ c = some M → M.B = K.B →
      (x.w = true → c ∉ x.anc → Dis K.o (K.o + x.cells.length) M.o (M.o + ac.cells.length)) ∧
      (x.t = true → Dis (K.o + x.cells.length) (K.o + K.x) M.o (M.o + ac.cells.length)) ∧
      (x.t = true → ac.t = true → Dis (K.o + x.cells.length) (K.o + K.x) (M.o + ac.cells.length) (M.o + M.x)) ∧
      (ac.w = true → Dis M.o (M.o + ac.cells.length) K.o (K.o + x.cells.length)) ∧
      (ac.t = true → Dis (M.o + ac.cells.length) (M.o + M.x) K.o (K.o + x.cells.length)))
    (hO : ∀ c ac M, H.m.get c = some ac → ρ c = some M → M.B = K.B → (ac.w = true ∨ ac.t = true) → False) :
    Rel N (ext ρ H.nx K) H' w := by
  obtain ⟨hnx, hg⟩ := new_get hn
  have hfresh := h.fresh H.nx (Nat.le_refl _)
  have hLe := Le.ext K hfresh
  have old : ∀ b ab, b ≠ H.nx → H'.m.get b = some ab → H.m.get b = some ab := by
    intro b ab hb hm; rw [hg, if_neg hb] at hm; exact hm
  have up : ∀ {ab : AB} {L : Loc}, Blk N ρ ab L w → Blk N (ext ρ H.nx K) ab L w := fun k =>
    { here := k.here, len := k.len, cell := fun i v hi => (let ⟨u, h1, h2⟩ := k.cell i v hi; ⟨u, h1, h2.mono hLe⟩), room := k.room, own := k.own, flat := k.flat, ty := k.ty }
  exact {
    base := h.base
    fresh := by
      intro b hb
      rw [hnx] at hb
      rw [ext_ne _ _ (by omega)]
      exact h.fresh b (by omega)
    ids := by
      intro b ab hb
      rw [hnx]
      by_cases e : b = H.nx
      · subst e
        rw [hg, if_pos rfl] at hb
        cases hb
        exact ⟨by omega, fun c hc => by have := (hanc c hc).1; omega⟩
      · obtain ⟨h1, h2⟩ := h.ids b ab (old _ _ e hb)
        exact ⟨by omega, fun c hc => by have := h2 c hc; omega⟩
    kid := by
      intro b c ab ac hb hc hac
      by_cases e : b = H.nx
      · subst e
        rw [hg, if_pos rfl] at hb
        cases hb
        obtain ⟨h1, h2⟩ := hanc c hc
        exact h2 ac (old _ _ (by omega) hac)
      · have hb' := old _ _ e hb
        have := (h.ids b ab hb').2 c hc
        exact h.kid b c ab ac hb' hc (old _ _ (by omega) hac)
    blk := by
      intro b ab L hb hL
      by_cases e : b = H.nx
      · subst e
        rw [hg, if_pos rfl] at hb
        cases hb
        rw [ext_same] at hL
        cases hL
        exact up hk
      · rw [ext_ne _ _ e] at hL
        exact up (h.blk b ab L (old _ _ e hb) hL)
    sep := by
      intro b c ab ac L M hne hb hc hL hM hB
      by_cases e : b = H.nx
      · by_cases e' : c = H.nx
        · exact absurd (e.trans e'.symm) hne
        · subst e
          rw [hg, if_pos rfl] at hb
          cases hb
          rw [ext_same] at hL
          cases hL
          rw [ext_ne _ _ e'] at hM
          obtain ⟨p1, p2, p3, _⟩ := hP c ac M (old _ _ e' hc) hM hB.symm
          exact ⟨p1, p2, p3⟩
      · rw [ext_ne _ _ e] at hL
        by_cases e' : c = H.nx
        · subst e'
          rw [hg, if_pos rfl] at hc
          cases hc
          rw [ext_same] at hM
          cases hM
          obtain ⟨_, _, p3, p4, p5⟩ := hP b ab L (old _ _ e hb) hL hB
          exact ⟨fun a _ => p4 a, p5, fun a b i h1 h2 h3 h4 => p3 b a i h3 h4 h1 h2⟩
        · rw [ext_ne _ _ e'] at hM
          exact h.sep b c ab ac L M hne (old _ _ e hb) (old _ _ e' hc) hL hM hB
    one := by
      intro b c ab ac L M hne hb hc hL hM hB h1 h2
      by_cases e : b = H.nx
      · by_cases e' : c = H.nx
        · exact absurd (e.trans e'.symm) hne
        · subst e
          rw [ext_same] at hL
          cases hL
          rw [ext_ne _ _ e'] at hM
          exact hO c ac M (old _ _ e' hc) hM hB.symm h2
      · rw [ext_ne _ _ e] at hL
        by_cases e' : c = H.nx
        · subst e'
          rw [ext_same] at hM
          cases hM
          exact hO b ab L (old _ _ e hb) hL hB h1
        · rw [ext_ne _ _ e'] at hM
          exact h.one b c ab ac L M hne (old _ _ e hb) (old _ _ e' hc) hL hM hB h1 h2 }

theorem list_drop_get {α : Type} (l : List α) (o i : Nat) : (l.drop o)[i]? = l[o + i]? := by rw [List.getElem?_drop]

/-- Append, in place, behind a block's end. -/
theorem Rel.behind (h : Rel N ρ H w) {b o : Nat} {ab : AB} {L : Loc} (hab : H.m.get b = some ab) (hL : ρ b = some L) (ht : ab.t = true) (ho : o ≤ ab.cells.length)
    {H1 : AH} (hp : H.put b (some ⟨ab.cells, false, false, ab.anc, ab.ty⟩) = some H1) {vs : List AV} {us : List Value}
    {ty' : Option TypeId} (hty : ∀ e, ty' = some e → ab.ty = some e ∧ o = 0)
    (hn : H1.new ⟨ab.cells.drop o ++ vs, ab.w, true, cond ab.w (b :: ab.anc) [], ty'⟩ = some H') (hv : VRs ρ vs us) (hroom : ab.cells.length + us.length ≤ L.x)
    (hflat : ∀ v ∈ vs, v.flat = true) :
    Rel N (ext ρ H.nx ⟨L.B, L.o + o, L.x - o⟩) H' (putCells w L.B (L.o + ab.cells.length) us) ∧ N ≤ L.B ∧
    (∀ i, i < us.length → (∃ u, w.cell? ⟨L.B, L.o + ab.cells.length + i, none⟩ = some u) ∧ w.frozen? ⟨L.B, L.o + ab.cells.length + i, none⟩ = false) := by
  obtain ⟨hn1, hg1⟩ := put_get hp
  have k := h.blk b ab L hab hL
  obtain ⟨hN, hfz⟩ := k.own (.inr ht)
  have hul := hv.length
  have r1 := h.shut hab hp
  have notanc : b ∉ ab.anc := by
    intro hm
    have := (h.kid b b ab ab hab hm hab).2
    rw [ht] at this; cases this
  have r2 : Rel N ρ H1 (putCells w L.B (L.o + ab.cells.length) us) := by
    refine r1.putFree fun c ac M hc hM hB => ?_
    rw [hg1] at hc
    split at hc
    · rename_i e
      subst e
      cases hc
      rw [hL] at hM
      cases hM
      intro i h1 h2 h3 h4
      simp only at h4
      omega
    · rename_i e
      have := (h.sep b c ab ac L M (fun x => e x.symm) hab hc hL hM hB.symm).2.1 ht
      intro i h1 h2 h3 h4
      exact this i h1 (by omega) h3 h4
  have hlen2 : (ab.cells.drop o ++ vs).length = ab.cells.length - o + us.length := by simp [hul]
  refine ⟨?_, hN, fun i hi => ?_⟩
  · rw [← hn1]
    refine r2.place hn ?_ ?_ ?_ ?_
    · intro c hc
      simp only at hc
      cases hw : ab.w with
      | false => rw [hw] at hc; cases hc
      | true =>
        rw [hw] at hc
        have hc' : c = b ∨ c ∈ ab.anc := by
          cases hc with
          | head => exact .inl rfl
          | tail _ hc => exact .inr hc
        obtain ⟨hb1, hb2⟩ := h.ids b ab hab
        rcases hc' with rfl | hc'
        · refine ⟨by omega, fun ac hac => ?_⟩
          rw [hg1, if_pos rfl] at hac
          cases hac
          exact ⟨rfl, rfl⟩
        · refine ⟨by have := hb2 c hc'; omega, fun ac hac => ?_⟩
          rw [hg1] at hac
          split at hac
          · cases hac; exact ⟨rfl, rfl⟩
          · exact h.kid b c ab ac hab hc' hac
    · refine { here := by simp only [putCells_size]; exact k.here, len := by simp only [hlen2]; omega, cell := ?_, room := ?_, own := ?_, flat := ?_, ty := fun e he => (by
        obtain ⟨h0, c, f, h1, h2⟩ := (k.ty e (hty e he).1).putCells (B := L.B) us (L.o + ab.cells.length)
        have h3 := (hty e he).2
        exact ⟨by simp only; omega, c, f, h1, by simp only; omega⟩) }
      · intro i v hi
        simp only at hi ⊢
        by_cases hlt : i < (ab.cells.drop o).length
        · rw [List.getElem?_append_left hlt, list_drop_get] at hi
          obtain ⟨u, h1, h2⟩ := k.cell _ _ hi
          refine ⟨u, ?_, h2⟩
          rw [putCells_out]
          · rw [show L.o + o + i = L.o + (o + i) by omega]; exact h1
          · intro _
            simp only [List.length_drop] at hlt
            omega
        · rw [List.getElem?_append_right (by omega)] at hi
          obtain ⟨u, h1, h2⟩ := hv.get _ _ hi
          refine ⟨u, ?_, h2⟩
          have := putCells_in L.B us (L.o + ab.cells.length) w (fun j hj => by
            have := k.room (ab.cells.length + j) (by omega)
            rw [Nat.add_assoc]; exact this) _ u h1
          simp only [List.length_drop] at this hlt
          rw [show L.o + ab.cells.length + (i - (ab.cells.length - o)) = L.o + o + i by omega] at this
          exact this
      · intro i hi
        simp only at hi ⊢
        refine putCells_some _ _ _ us _ w ?_
        rw [Nat.add_assoc]
        exact k.room (o + i) (by omega)
      · intro _
        exact ⟨hN, hfz.putCells _ us _⟩
      · intro v hv'
        simp only [List.mem_append] at hv'
        rcases hv' with h | h
        · exact k.flat v (List.mem_of_mem_drop h)
        · exact hflat v h
    · intro c ac M hc hM hB
      simp only at hB ⊢
      rw [hg1] at hc
      rw [hlen2]
      split at hc
      · rename_i e
        subst e
        cases hc
        rw [hL] at hM
        cases hM
        simp only
        refine ⟨fun hw hx => ?_, fun _ => ?_, fun _ hx => (by cases hx), fun hx => (by cases hx), fun hx => (by cases hx)⟩
        · rw [hw] at hx
          exact absurd (List.Mem.head _) hx
        · intro i h1 h2 h3 h4
          omega
      · rename_i e
        obtain ⟨s1, s2, s3⟩ := h.sep b c ab ac L M (fun x => e x.symm) hab hc hL hM hB.symm
        obtain ⟨t1, t2, t3⟩ := h.sep c b ac ab M L e hc hab hM hL hB
        refine ⟨fun hw hx => ?_, fun _ => ?_, fun _ hx => ?_, fun hx => ?_, fun hx => ?_⟩
        · rw [hw] at hx
          have hx' : c ∉ ab.anc := fun hm => hx (List.Mem.tail _ hm)
          intro i h1 h2 h3 h4
          by_cases hi : i < L.o + ab.cells.length
          · exact s1 hw hx' i (by omega) hi h3 h4
          · exact s2 ht i (by omega) (by omega) h3 h4
        · intro i h1 h2 h3 h4
          exact s2 ht i (by omega) (by omega) h3 h4
        · intro i h1 h2 h3 h4
          exact s3 ht hx i (by omega) (by omega) h3 h4
        · intro i h1 h2 h3 h4
          by_cases hi : i < L.o + ab.cells.length
          · refine t1 hx (fun hm => ?_) i h1 h2 (by omega) hi
            have := (h.kid c b ac ab hc hm hab).2
            rw [ht] at this; cases this
          · exact s2 ht i (by omega) (by omega) h1 h2
        · intro i h1 h2 h3 h4
          by_cases hi : i < L.o + ab.cells.length
          · exact t2 hx i h1 h2 (by omega) hi
          · exact s3 ht hx i (by omega) (by omega) h1 h2
    · intro c ac M hc hM hB ho
      simp only at hB
      rw [hg1] at hc
      split at hc
      · cases hc
        rcases ho with ho | ho <;> cases ho
      · rename_i e
        exact h.one b c ab ac L M (fun x => e x.symm) hab hc hL hM hB.symm (.inr ht) ho
  · rw [Nat.add_assoc]
    exact ⟨k.room (ab.cells.length + i) (by omega), hfz.frozen (k.room (ab.cells.length + i) (by omega))⟩

/-- Append, in place, from within a block over its end: the block is lost. -/
theorem Rel.over (h : Rel N ρ H w) {b o n : Nat} {ab : AB} {L : Loc} (hab : H.m.get b = some ab) (hL : ρ b = some L) (ht : ab.t = true) (hw : ab.w = true)
    (ho : o + n ≤ ab.cells.length) {H1 : AH} (hp : H.drop (b :: ab.anc) = some H1) {vs : List AV} {us : List Value}
    {ty' : Option TypeId} (hty : ∀ e, ty' = some e → ab.ty = some e ∧ o = 0)
    (hn : H1.new ⟨(ab.cells.drop o).take n ++ vs, true, true, [], ty'⟩ = some H') (hv : VRs ρ vs us) (hover : ab.cells.length ≤ o + n + us.length) (hroom : o + n + us.length ≤ L.x)
    (hflat : ∀ v ∈ vs, v.flat = true) :
    Rel N (ext ρ H.nx ⟨L.B, L.o + o, L.x - o⟩) H' (putCells w L.B (L.o + o + n) us) ∧ N ≤ L.B ∧
    (∀ i, i < us.length → (∃ u, w.cell? ⟨L.B, L.o + o + n + i, none⟩ = some u) ∧ w.frozen? ⟨L.B, L.o + o + n + i, none⟩ = false) := by
  have k := h.blk b ab L hab hL
  obtain ⟨hN, hfz⟩ := k.own (.inr ht)
  have hul := hv.length
  obtain ⟨r1, hn1, hgone, heither, hkeep⟩ := h.lose_all hp
  have inH : ∀ c ac, H1.m.get c = some ac → H.m.get c = some ac ∧ c ≠ b ∧ c ∉ ab.anc := by
    intro c ac hc
    refine ⟨?_, ?_, ?_⟩
    · rcases heither c with e | e
      · rw [e] at hc; cases hc
      · rw [← e]; exact hc
    · intro e
      rw [hgone c (by rw [e]; exact List.Mem.head _)] at hc; cases hc
    · intro e
      rw [hgone c (List.Mem.tail _ e)] at hc; cases hc
  have r2 : Rel N ρ H1 (putCells w L.B (L.o + o + n) us) := by
    refine r1.putFree fun c ac M hc hM hB => ?_
    obtain ⟨hc', e, e'⟩ := inH c ac hc
    obtain ⟨s1, s2, s3⟩ := h.sep b c ab ac L M (fun x => e x.symm) hab hc' hL hM hB.symm
    intro i h1 h2 h3 h4
    by_cases hi : i < L.o + ab.cells.length
    · exact s1 hw e' i (by omega) hi h3 h4
    · exact s2 ht i (by omega) (by omega) h3 h4
  have hlen1 : ((ab.cells.drop o).take n).length = n := by simp; omega
  have hlen2 : ((ab.cells.drop o).take n ++ vs).length = n + us.length := by rw [List.length_append, hlen1, hul]
  refine ⟨?_, hN, fun i hi => ?_⟩
  · rw [← hn1]
    refine r2.place hn (fun c hc => by cases hc) ?_ ?_ ?_
    · refine { here := by simp only [putCells_size]; exact k.here, len := by simp only [hlen2]; omega, cell := ?_, room := ?_, own := ?_, flat := ?_, ty := fun e he => (by
        obtain ⟨h0, c, f, h1, h2⟩ := (k.ty e (hty e he).1).putCells (B := L.B) us (L.o + o + n)
        have h3 := (hty e he).2
        exact ⟨by simp only; omega, c, f, h1, by simp only; omega⟩) }
      · intro i v hi
        simp only at hi ⊢
        by_cases hlt : i < n
        · rw [List.getElem?_append_left (by omega), List.getElem?_take, if_pos hlt, list_drop_get] at hi
          obtain ⟨u, h1, h2⟩ := k.cell _ _ hi
          refine ⟨u, ?_, h2⟩
          rw [putCells_out]
          · rw [show L.o + o + i = L.o + (o + i) by omega]; exact h1
          · intro _
            omega
        · rw [List.getElem?_append_right (by omega), hlen1] at hi
          obtain ⟨u, h1, h2⟩ := hv.get _ _ hi
          refine ⟨u, ?_, h2⟩
          have := putCells_in L.B us (L.o + o + n) w (fun j hj => by
            have := k.room (o + n + j) (by omega)
            rw [show L.o + o + n + j = L.o + (o + n + j) by omega]; exact this) _ u h1
          rw [show L.o + o + n + (i - n) = L.o + o + i by omega] at this
          exact this
      · intro i hi
        simp only at hi ⊢
        refine putCells_some _ _ _ us _ w ?_
        rw [Nat.add_assoc]
        exact k.room (o + i) (by omega)
      · intro _
        exact ⟨hN, hfz.putCells _ us _⟩
      · intro v hv'
        simp only [List.mem_append] at hv'
        rcases hv' with h | h
        · exact k.flat v (List.mem_of_mem_drop (List.mem_of_mem_take h))
        · exact hflat v h
    · intro c ac M hc hM hB
      simp only at hB ⊢
      rw [hlen2]
      obtain ⟨hc', e, e'⟩ := inH c ac hc
      obtain ⟨s1, s2, s3⟩ := h.sep b c ab ac L M (fun x => e x.symm) hab hc' hL hM hB.symm
      obtain ⟨t1, t2, t3⟩ := h.sep c b ac ab M L e hc' hab hM hL hB
      have all : Dis (L.o + o) (L.o + o + (n + us.length)) M.o (M.o + ac.cells.length) := by
        intro i h1 h2 h3 h4
        by_cases hi : i < L.o + ab.cells.length
        · exact s1 hw e' i (by omega) hi h3 h4
        · exact s2 ht i (by omega) (by omega) h3 h4
      refine ⟨fun _ _ => all, fun _ => ?_, fun _ hx => ?_, fun hx => ?_, fun hx => ?_⟩
      · intro i h1 h2 h3 h4
        exact s2 ht i (by omega) (by omega) h3 h4
      · intro i h1 h2 h3 h4
        exact s3 ht hx i (by omega) (by omega) h3 h4
      · intro i h1 h2 h3 h4
        exact all i h3 h4 h1 h2
      · intro i h1 h2 h3 h4
        by_cases hi : i < L.o + ab.cells.length
        · exact t2 hx i h1 h2 (by omega) hi
        · exact s3 ht hx i (by omega) (by omega) h1 h2
    · intro c ac M hc hM hB ho
      obtain ⟨hc', e, e'⟩ := inH c ac hc
      exact h.one b c ab ac L M (fun x => e x.symm) hab hc' hL hM hB.symm (.inr ht) ho
  · rw [show L.o + o + n + i = L.o + (o + n + i) by omega]
    exact ⟨k.room (o + n + i) (by omega), hfz.frozen (k.room (o + n + i) (by omega))⟩

/-- Cells of a block are read. -/
theorem Rel.read (h : Rel N ρ H w) {b o n : Nat} {vs : List AV} (hr : H.read b o n = some vs) {L : Loc} (hL : ρ b = some L) :
    vs.length = n ∧ (∀ v ∈ vs, v.flat = true) ∧ ∀ i v, vs[i]? = some v → ∃ u, w.cell? ⟨L.B, L.o + o + i, none⟩ = some u ∧ VR ρ v u := by
  unfold AH.read at hr
  split at hr
  case h_2 => cases hr
  rename_i ab hab
  split at hr
  case h_2 => cases hr
  rename_i hc
  rw [Nat.ble_eq] at hc
  cases hr
  have k := h.blk b ab L hab hL
  refine ⟨by simp; omega, fun v hv => k.flat v (List.mem_of_mem_drop (List.mem_of_mem_take hv)), fun i v hi => ?_⟩
  rw [List.getElem?_take] at hi
  split at hi
  · rw [list_drop_get] at hi
    obtain ⟨u, h1, h2⟩ := k.cell _ _ hi
    exact ⟨u, by rw [Nat.add_assoc]; exact h1, h2⟩
  · cases hi

theorem Rel.drew (h : Rel N ρ H w) (n : Nat) : Rel N ρ H { w with drawn := n } :=
  { base := h.base, fresh := h.fresh, ids := h.ids, kid := h.kid, sep := h.sep, one := h.one,
    blk := fun b ab L hb hL => (let k := h.blk b ab L hb hL; { here := k.here, len := k.len, cell := k.cell, room := k.room, own := k.own, flat := k.flat, ty := k.ty }) }
/-- The mark behind a row of bytes. -/
def World.markEnd (w : World) (B n : Nat) : World := w.freeze ⟨B, n, none⟩ 1

theorem markEnd_cell (w : World) (B n : Nat) (a : Addr) : (World.markEnd w B n).cell? a = w.cell? a := by
  unfold World.markEnd World.freeze
  rw [if_neg (by omega)]
  simp only [World.cell?, Array.getElem?_modify]
  by_cases e : B = a.block
  · rw [if_pos e]
    cases w.heap[a.block]? with
    | none => rfl
    | some o => cases o <;> rfl
  · rw [if_neg e]
theorem markEnd_size (w : World) (B n : Nat) : (World.markEnd w B n).heap.size = w.heap.size := by
  unfold World.markEnd World.freeze
  rw [if_neg (by omega)]
  simp
theorem markEnd_NF {w : World} {B n C : Nat} (hn : ∀ c e f, w.heap[B]? = some (.cells c e f) → n = c.size) (h : NF w C) : NF (World.markEnd w B n) C := by
  intro c e lo hi hx
  unfold World.markEnd World.freeze at hx
  rw [if_neg (by omega)] at hx
  simp only [Array.getElem?_modify] at hx
  split at hx
  · rename_i e'
    subst e'
    cases hb : w.heap[B]? with
    | none => rw [hb] at hx; cases hx
    | some o =>
      rw [hb] at hx
      cases o <;> simp only [Option.map_some, Option.some.injEq, Obj.cells.injEq, reduceCtorEq] at hx
      rename_i c0 e0 f0
      obtain ⟨lo0, hi0⟩ := f0
      obtain ⟨rfl, rfl, h3⟩ := hx
      have k1 := hn _ _ _ hb
      have k2 := h _ _ _ _ hb
      by_cases he : lo0 = hi0
      · simp only [he, beq_self_eq_true, if_true, Prod.mk.injEq] at h3
        omega
      · have : (lo0 == hi0) = false := by simpa using he
        simp only [this, Bool.false_eq_true, if_false, Prod.mk.injEq] at h3
        omega
  · exact h c e lo hi hx

theorem Rel.markEnd (h : Rel N ρ H w) {B n : Nat} (hn : ∀ c e f, w.heap[B]? = some (.cells c e f) → n = c.size) : Rel N ρ H (World.markEnd w B n) where
  base := by rw [markEnd_size]; exact h.base
  fresh := h.fresh
  ids := h.ids
  kid := h.kid
  sep := h.sep
  one := h.one
  blk := by
    intro b ab L hb hL
    have k := h.blk b ab L hb hL
    refine { here := by rw [markEnd_size]; exact k.here, len := k.len, cell := ?_, room := ?_, own := ?_, flat := k.flat, ty := fun e he => (k.ty e he).freeze _ _ }
    · intro i v hi
      obtain ⟨u, h1, h2⟩ := k.cell i v hi
      exact ⟨u, by rw [markEnd_cell]; exact h1, h2⟩
    · intro i hi
      obtain ⟨u, h1⟩ := k.room i hi
      exact ⟨u, by rw [markEnd_cell]; exact h1⟩
    · intro ho
      obtain ⟨h1, h2⟩ := k.own ho
      exact ⟨h1, markEnd_NF hn h2⟩

theorem markEnd_below {w0 : World} {B n : Nat} (h : Below N w0 w) (hB : N ≤ B) : Below N w0 (World.markEnd w B n) := by
  refine h.trans ⟨?_, ?_, ?_, ?_, fun k hk => ?_⟩
  · unfold World.markEnd World.freeze; rw [if_neg (by omega)]
  · unfold World.markEnd World.freeze; rw [if_neg (by omega)]
  · unfold World.markEnd World.freeze; rw [if_neg (by omega)]
  · rw [markEnd_size]; exact Nat.le_refl _
  · unfold World.markEnd World.freeze
    rw [if_neg (by omega)]
    simp only [Array.getElem?_modify]
    rw [if_neg (by omega)]

theorem freeze_cell (w : World) (p : Addr) (n : Nat) (a : Addr) : (w.freeze p n).cell? a = w.cell? a := by
  unfold World.freeze
  split
  · rfl
  · simp only [World.cell?, Array.getElem?_modify]
    by_cases e : p.block = a.block
    · rw [if_pos e]
      cases w.heap[a.block]? with
      | none => rfl
      | some o => cases o <;> rfl
    · rw [if_neg e]
theorem freeze_size (w : World) (p : Addr) (n : Nat) : (w.freeze p n).heap.size = w.heap.size := by
  unfold World.freeze
  split
  · rfl
  · simp
theorem freeze_NF {w : World} {p : Addr} {n C : Nat} (hn : C ≠ p.block) (h : NF w C) : NF (w.freeze p n) C := by
  unfold World.freeze
  split
  · exact h
  · intro c e lo hi hx
    simp only [Array.getElem?_modify] at hx
    rw [if_neg (fun e => hn e.symm)] at hx
    exact h c e lo hi hx

/-- Cells of a block are frozen: it may no longer be written. -/
theorem Rel.freeze (h : Rel N ρ H w) {b : Nat} {ab : AB} {L : Loc} (hb : H.m.get b = some ab) (hL : ρ b = some L) (ho : ab.w = true ∨ ab.t = true)
    (hp : H.put b (some ⟨ab.cells, false, false, ab.anc, ab.ty⟩) = some H') (o n : Nat) : Rel N ρ H' (w.freeze ⟨L.B, o, none⟩ n) := by
  have r := h.shut hb hp
  obtain ⟨_, hg⟩ := put_get hp
  exact {
    base := by rw [freeze_size]; exact r.base
    fresh := r.fresh
    ids := r.ids
    kid := r.kid
    sep := r.sep
    one := r.one
    blk := by
      intro c ac M hc hM
      have k := r.blk c ac M hc hM
      refine { here := by rw [freeze_size]; exact k.here, len := k.len, cell := ?_, room := ?_, own := ?_, flat := k.flat, ty := fun e he => (k.ty e he).freeze _ _ }
      · intro i v hi
        obtain ⟨u, h1, h2⟩ := k.cell i v hi
        exact ⟨u, by rw [freeze_cell]; exact h1, h2⟩
      · intro i hi
        obtain ⟨u, h1⟩ := k.room i hi
        exact ⟨u, by rw [freeze_cell]; exact h1⟩
      · intro hw
        obtain ⟨h1, h2⟩ := k.own hw
        refine ⟨h1, freeze_NF (fun hB => ?_) h2⟩
        rw [hg] at hc
        split at hc
        · cases hc
          rcases hw with hw | hw <;> cases hw
        · rename_i e
          exact h.one b c ab ac L M (fun x => e x.symm) hb hc hL hM hB.symm ho hw }

/-- A block that has no place yet gets one, at the world's end. -/
theorem Rel.mapNew (h : Rel N ρ H w) {b : Nat} {cells : List AV} {t : Bool} {ty : Option TypeId} (hb : H.m.get b = some ⟨cells, true, t, [], ty⟩) (hρ : ρ b = none) (c : Array Value) (e : TypeId) (hty : ∀ e', ty = some e' → e' = e) (hle : cells.length ≤ c.size)
    (hv : ∀ (i : Nat) (v : AV), cells[i]? = some v → ∃ u, c[i]? = some u ∧ VR ρ v u) (hf : ∀ v ∈ cells, v.flat = true) :
    Rel N (ext ρ b ⟨w.heap.size, 0, c.size⟩) H { w with heap := w.heap.push (.cells c e) } := by
  have hLe := Le.ext (⟨w.heap.size, 0, c.size⟩ : Loc) hρ
  have hlt := (h.ids b _ hb).1
  exact {
    base := by simp only [Array.size_push]; have := h.base; omega
    fresh := fun m hm => by rw [ext_ne _ _ (by omega)]; exact h.fresh m hm
    ids := h.ids
    kid := h.kid
    blk := by
      intro m ab L hm hL
      by_cases e' : m = b
      · subst e'
        rw [hb] at hm
        cases hm
        rw [ext_same] at hL
        cases hL
        refine { here := by simp, len := hle, cell := ?_, room := ?_, own := ?_, flat := hf, ty := fun e' he' => (by rw [hty e' he']; exact Ty.new w c e _) }
        · intro i v hi
          obtain ⟨u, h1, h2⟩ := hv i v hi
          refine ⟨u, ?_, h2.mono hLe⟩
          simp only [Nat.zero_add]
          rw [cell_push_new]; exact h1
        · intro i hi
          simp only [Nat.zero_add]
          rw [cell_push_new]
          exact ⟨_, Array.getElem?_eq_getElem hi⟩
        · intro _
          exact ⟨h.base, NF.new w c _ (0, 0) (.inl rfl)⟩
      · rw [ext_ne _ _ e'] at hL
        have k := h.blk m ab L hm hL
        refine { here := by simp only [Array.size_push]; have := k.here; omega, len := k.len, cell := ?_, room := ?_, own := ?_, flat := k.flat, ty := fun e' he' => (k.ty e' he').push _ }
        · intro i v hi
          obtain ⟨u, h1, h2⟩ := k.cell i v hi
          exact ⟨u, by rw [cell_push_old _ _ _ k.here]; exact h1, h2.mono hLe⟩
        · intro i hi
          obtain ⟨u, h1⟩ := k.room i hi
          exact ⟨u, by rw [cell_push_old _ _ _ k.here]; exact h1⟩
        · intro ho
          obtain ⟨h1, h2⟩ := k.own ho
          exact ⟨h1, h2.push _ k.here⟩
    sep := by
      intro m c' ab ac L M hne hm hc hL hM hB
      by_cases e1 : m = b
      · by_cases e2 : c' = b
        · exact absurd (e1.trans e2.symm) hne
        · exfalso
          subst e1
          rw [ext_same] at hL
          cases hL
          rw [ext_ne _ _ e2] at hM
          have := (h.blk c' ac M hc hM).here
          simp only at hB
          omega
      · rw [ext_ne _ _ e1] at hL
        by_cases e2 : c' = b
        · exfalso
          subst e2
          rw [ext_same] at hM
          cases hM
          have := (h.blk m ab L hm hL).here
          simp only at hB
          omega
        · rw [ext_ne _ _ e2] at hM
          exact h.sep m c' ab ac L M hne hm hc hL hM hB
    one := by
      intro m c' ab ac L M hne hm hc hL hM hB
      by_cases e1 : m = b
      · by_cases e2 : c' = b
        · exact absurd (e1.trans e2.symm) hne
        · exfalso
          subst e1
          rw [ext_same] at hL
          cases hL
          rw [ext_ne _ _ e2] at hM
          have := (h.blk c' ac M hc hM).here
          simp only at hB
          omega
      · rw [ext_ne _ _ e1] at hL
        by_cases e2 : c' = b
        · exfalso
          subst e2
          rw [ext_same] at hM
          cases hM
          have := (h.blk m ab L hm hL).here
          simp only at hB
          omega
        · rw [ext_ne _ _ e2] at hM
          exact h.one m c' ab ac L M hne hm hc hL hM hB }

/-- New blocks without a place. -/
theorem Rel.more (h : Rel N ρ H w) (hn : H.nx ≤ H'.nx) (hold : ∀ b, b < H.nx → H'.m.get b = H.m.get b)
    (hnew : ∀ b ab, H'.m.get b = some ab → H.m.get b = some ab ∨ (H.nx ≤ b ∧ b < H'.nx ∧ ab.anc = [])) : Rel N ρ H' w where
  base := h.base
  fresh := fun b hb => h.fresh b (by omega)
  ids := by
    intro b ab hb
    rcases hnew b ab hb with k | ⟨k1, k2, k3⟩
    · obtain ⟨h1, h2⟩ := h.ids b ab k
      exact ⟨by omega, fun c hc => by have := h2 c hc; omega⟩
    · exact ⟨k2, fun c hc => by rw [k3] at hc; cases hc⟩
  kid := by
    intro b c ab ac hb hc hac
    rcases hnew b ab hb with k | ⟨k1, k2, k3⟩
    · have := (h.ids b ab k).2 c hc
      rw [hold c this] at hac
      exact h.kid b c ab ac k hc hac
    · rw [k3] at hc; cases hc
  blk := by
    intro b ab L hb hL
    rcases hnew b ab hb with k | ⟨k1, k2, k3⟩
    · exact h.blk b ab L k hL
    · rw [h.fresh b k1] at hL; cases hL
  sep := by
    intro b c ab ac L M hne hb hc hL hM hB
    rcases hnew b ab hb with k | ⟨k1, k2, k3⟩
    · rcases hnew c ac hc with k' | ⟨k1, k2, k3⟩
      · exact h.sep b c ab ac L M hne k k' hL hM hB
      · rw [h.fresh c k1] at hM; cases hM
    · rw [h.fresh b k1] at hL; cases hL
  one := by
    intro b c ab ac L M hne hb hc hL hM hB
    rcases hnew b ab hb with k | ⟨k1, k2, k3⟩
    · rcases hnew c ac hc with k' | ⟨k1, k2, k3⟩
      · exact h.one b c ab ac L M hne k k' hL hM hB
      · rw [h.fresh c k1] at hM; cases hM
    · rw [h.fresh b k1] at hL; cases hL

end

end
end Go.Proofs.YtofpjpeededndaaGreatDoorSim
