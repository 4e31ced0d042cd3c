/- APPEND: in place or not, as the tape has it: the machine's append is either. -/
import Derived.Test.YtofpjpeededndaaGreatDoorSimQ
set_option linter.unusedVariables false
namespace Go.Proofs.YtofpjpeededndaaGreatDoorSim
noncomputable section
open Go.RowKit (Below)

section
variable {P : Program} {E : Env} {N : Nat} {ρ : Pl} {H H' : AH} {w : World}

def u8s (s : List Nat) : List AV := s.map fun x => .int .u8 (Int.ofNat x)

def srcCells (H : AH) (sz : Nat) : AV → Option (Nat × List AV)
  | .slice b o len sz' _ => match Nat.beq sz' sz, len with
    | true, 0 => some (0, [])
    | true, len => match H.read b o (len * sz) with
      | some vs => some (len, vs)
      | none => none
    | false, _ => none
  | .nils => some (0, [])
  | .str s => match Nat.beq sz 1 with
    | true => some (s.length, u8s s)
    | false => none
  | _ => none

theorem slice_addr {b o len sz : Nat} {cap : Option Nat} {u : Value} (h : VR ρ (.slice b o (len + 1) sz cap) u) :
    ∃ L c, ρ b = some L ∧ u = .slice (some ⟨L.B, L.o + o, none⟩) (len + 1) c ∧ len + 1 ≤ c ∧ (cap = some c ∨ (cap = none ∧ o + c * sz = L.x)) := by
  simp only [VR] at h
  obtain ⟨L, a, c, hL, rfl, hle, h⟩ := h
  rcases h with ⟨e, rfl⟩ | ⟨e1, e2, e3⟩
  · exact ⟨L, c, hL, rfl, hle, .inl e⟩
  · have : a = ⟨L.B, L.o + o, none⟩ := e3.resolve_left (by omega)
    subst this
    exact ⟨L, c, hL, rfl, hle, .inr ⟨e1, e2⟩⟩

theorem u8s_VR : ∀ {s : List Nat}, (∀ a ∈ s, a < 256) → VRs ρ (u8s s) ((s.map UInt8.ofNat).map fun b => Value.int .u8 b.toNat)
  | [], _ => by simp [u8s, VRs]
  | a :: s, h => by
    have ih := u8s_VR (s := s) fun x hx => h x (by simp [hx])
    simp only [u8s, List.map_cons, VRs] at ih ⊢
    refine ⟨_, _, rfl, ?_, ih⟩
    simp only [VR]
    rw [UInt8.toNat_ofNat', Nat.mod_eq_of_lt (h a (by simp))]
    rfl

theorem src_ok (h : Rel N ρ H w) {sz : Nat} {x : AV} {u : Value} {k : Nat} {vs : List AV} (hx : VR ρ x u) (hs : srcCells H sz x = some (k, vs)) :
    (∀ w', (Builtin.lenOf u).run P w' = .ok k w') ∧ vs.length = k * sz ∧ (∀ v ∈ vs, v.flat = true) ∧
    ∃ us : List Value, VRs ρ vs us ∧ ∀ w' : World, w'.heap = w.heap → (Builtin.firstCells sz k u).run P w' = .ok us.toArray w' := by
  unfold srcCells at hs
  split at hs
  · rename_i b o len sz' cap
    split at hs
    · rename_i hsz
      cases hs
      simp only [VR] at hx
      obtain ⟨L, a, c, _, rfl, _⟩ := hx
      refine ⟨fun w' => rfl, by simp, fun v hv => (by cases hv), [], by simp [VRs], fun w' _ => ?_⟩
      simp [Builtin.firstCells, loadCells, loadCellsFrom]
    · rename_i hsz hlen
      rw [Nat.beq_eq] at hsz
      split at hs
      · rename_i vs' hr
        cases hs
        cases hk : k with
        | zero => exact absurd hk (fun e => hlen (by rw [e]))
        | succ k0 =>
        rw [hk] at hx hr
        obtain ⟨L, c, hL, rfl, hle, _⟩ := slice_addr hx
        obtain ⟨us, hl, hv, hc⟩ := h.cellsAt hr hL
        obtain ⟨hlen1, hflat, _⟩ := h.read hr hL
        refine ⟨fun w' => rfl, hlen1, hflat, us, hv, fun w' hw => ?_⟩
        simp only [Builtin.firstCells]
        rw [← hl]
        refine run_loadCells _ _ us fun j u hu => ?_
        have := hc j u hu
        simp only [World.cell?] at this ⊢
        rw [hw]; exact this
      · cases hs
    · cases hs
  · cases hs
    simp only [VR] at hx
    subst hx
    exact ⟨fun w' => rfl, by simp, fun v hv => (by cases hv), [], by simp [VRs], fun w' _ => rfl⟩
  · rename_i s
    split at hs
    · rename_i hsz
      rw [Nat.beq_eq] at hsz
      subst hsz
      cases hs
      simp only [VR] at hx
      obtain ⟨rfl, hs⟩ := hx
      refine ⟨fun w' => by simp only [Builtin.lenOf, bs_size]; rfl, by simp [u8s], fun v hv => ?_, _, u8s_VR hs, fun w' _ => ?_⟩
      · obtain ⟨a, _, rfl⟩ := List.mem_map.1 hv
        rfl
      · simp only [Builtin.firstCells]
        have e : (bs s).extract 0 s.length = bs s := by rw [extract_bs]; simp
        rw [e]
        simp [bs]
    · cases hs
  · cases hs

def gOK (need bytes : Nat) : Bool := Nat.ble ((2 * need + 768) * bytes) 281474976710656 && Nat.blt 0 bytes

theorem growBy_le (n : Nat) : ∀ (r c : Nat), c ≤ 2 * n + 768 → Builtin.growBy n r c ≤ 2 * n + 768
  | 0, c, h => by simpa [Builtin.growBy] using h
  | r + 1, c, h => by
    simp only [Builtin.growBy]
    split
    · exact h
    · exact growBy_le n r _ (by omega)
theorem nextslicecap_le {need old : Nat} (h : old < need) : Builtin.nextslicecap need old ≤ 2 * need + 768 := by
  unfold Builtin.nextslicecap
  split
  · omega
  · split
    · omega
    · exact growBy_le need 4 old (by omega)

def isInt : TypeDesc → Bool
  | .int _ => true
  | _ => false

def zerosOK (E : Env) : List TypeId → Bool
  | [] => true
  | t :: _ => match E.ti t with
    | some x => !isInt x.desc
    | none => false

theorem zeros_some {ts : List TypeId} (h : zerosOK E ts = true) {t : TypeId} (ht : ts[0]? = some t) : ∃ x, E.ti t = some x ∧ isInt x.desc = false := by
  cases ts with
  | nil => simp at ht
  | cons t' ts =>
    simp only [List.getElem?_cons_zero, Option.some.injEq] at ht
    subst ht
    simp only [zerosOK] at h
    split at h
    · rename_i x hx
      exact ⟨x, hx, by simpa using h⟩
    · cases h

/-- What append needs to know of the types. -/
structure AppT (P : Program) (E : Env) (argTypes : Array TypeId) (elem : TypeId) (te : TI) (z : AV) : Prop where
  s : ∃ t0 ti, argTypes[0]? = some t0 ∧ E.ti t0 = some ti ∧ ti.desc = .slice elem
  x : zerosOK E (argTypes.toList.drop 1) = true
  e : E.ti elem = some te
  z0 : te.zero = some z
  zl : z.cells.length = te.size
  pos : 0 < te.size

theorem append_in (hE : EnvOK P E) {argTypes : Array TypeId} {elem : TypeId} {te : TI} {z : AV} (hT : AppT P E argTypes elem te z) {ty : TypeId} {base : Option Addr} {sLen sCap k : Nat} {x : Value} {us : List Value}
    (hlen : ∀ w', (Builtin.lenOf x).run P w' = .ok k w') (hcells : ∀ w' : World, w'.heap = w.heap → (Builtin.firstCells te.size k x).run P w' = .ok us.toArray w')
    (hle : sLen + k ≤ sCap) {w1 : World} (hst : ∀ a, base = some a → (storeCells (a.add (sLen * te.size)) us).run P w = .ok () w1) (hst0 : base = none → w1 = w) :
    (Builtin.append_ argTypes ty #[.slice base sLen sCap, x]).run P w = .ok (.slice base (sLen + k) sCap) w1 := by
  obtain ⟨t0, ti, h0, h1, h2⟩ := hT.s
  have e1 : argTypes[1]? = (argTypes.toList.drop 1)[0]? := by simp
  unfold Builtin.append_
  simp only [h0, List.getElem?_toArray, List.getElem?_cons_zero, List.getElem?_cons_succ, Sem.run_bind, hE.und h1, h2, Result.andThen_ok, hE.size hT.e]
  rw [e1]
  cases hx : (argTypes.toList.drop 1)[0]? with
  | none =>
    simp only [Sem.run_bind, Sem.run_pure, Result.andThen_ok, Bool.false_eq_true, if_false, hlen, hle, if_true, Bool.not_false, hcells w rfl]
    cases base with
    | none => rw [hst0 rfl]; rfl
    | some a => simp only [Sem.run_bind, hst a rfl, Result.andThen_ok, Sem.run_pure]
  | some t1 =>
    obtain ⟨x1, hx1, hm⟩ := zeros_some hT.x hx
    simp only [Sem.run_bind, hE.und hx1, Result.andThen_ok, Sem.run_pure]
    generalize x1.desc = d at hm ⊢
    cases d
    case int => simp [isInt] at hm
    all_goals
      simp only [Sem.run_bind, Result.andThen_ok, Sem.run_pure, Bool.false_eq_true, if_false, hlen, hle, if_true, Bool.not_false, hcells w rfl]
      cases base with
      | none => rw [hst0 rfl]; rfl
      | some a => simp only [Sem.run_bind, hst a rfl, Result.andThen_ok, Sem.run_pure]

theorem zeroCells_size (z : Array Value) (n : Nat) : (Builtin.zeroCells z n).size = n * z.size := by simp [Builtin.zeroCells]

theorem append_grow (hE : EnvOK P E) {argTypes : Array TypeId} {elem : TypeId} {te : TI} {z : AV} (hT : AppT P E argTypes elem te z) {ty : TypeId} {base : Option Addr} {sLen sCap k : Nat} {x : Value} {us olds : List Value}
    (hlen : ∀ w', (Builtin.lenOf x).run P w' = .ok k w') (hcells : ∀ w' : World, w'.heap = w.heap → (Builtin.firstCells te.size k x).run P w' = .ok us.toArray w')
    (hold : ∀ w' : World, w'.heap = w.heap → (Builtin.firstCells te.size sLen (.slice base sLen sCap)).run P w' = .ok olds.toArray w')
    (hgt : ¬ sLen + k ≤ sCap) (hg : gOK (sLen + k) te.bytes = true) :
    ∃ (newCap : Nat) (rest : Array Value), sLen + k ≤ newCap ∧ rest.size = (newCap - (sLen + k)) * te.size ∧
      (Builtin.append_ argTypes ty #[.slice base sLen sCap, x]).run P w =
        .ok (.slice (some ⟨w.heap.size, 0, none⟩) (sLen + k) newCap) { w with drawn := w.drawn + 1, heap := w.heap.push (.cells (olds.toArray ++ us.toArray ++ rest) elem) } := by
  obtain ⟨t0, ti, h0, h1, h2⟩ := hT.s
  have e1 : argTypes[1]? = (argTypes.toList.drop 1)[0]? := by simp
  simp only [gOK, Bool.and_eq_true, Nat.ble_eq, Nat.blt_eq] at hg
  obtain ⟨hg1, hg2⟩ := hg
  have hnc := nextslicecap_le (need := sLen + k) (old := sCap) (by omega)
  have hb : Builtin.nextslicecap (sLen + k) sCap * te.bytes ≤ 281474976710656 := Nat.le_trans (Nat.mul_le_mul_right _ hnc) hg1
  obtain ⟨uz, hz1, hz2⟩ := hE.zero (P := P) (w := w) hT.e hT.z0
  have hzl : uz.cells.size = te.size := by
    have := ((ofValue_VR (fun _ => none) hz2).1.cells).length
    rw [Array.length_toList, hT.zl] at this
    exact this
  have hzero : ∀ w' : World, (zeroValue elem).run P w' = .ok uz w' := by
    intro w'
    obtain ⟨uz', k1, k2⟩ := hE.zero (P := P) (w := w') hT.e hT.z0
    have k3 := hz1
    simp only [zeroValue, typeInfo, Sem.run_bind, run_program, Result.andThen_ok] at k3 ⊢
    cases hi : P.info? elem with
    | none => rw [hi] at k3; simp at k3
    | some i =>
      rw [hi] at k3
      simp only [Sem.run_pure, Result.andThen_ok] at k3 ⊢
      cases hzz : i.zero with
      | none => rw [hzz] at k3; simp at k3
      | some v => rw [hzz] at k3; simp at k3 ⊢; exact k3
  have hinfo : ∀ w' : World, ∃ i, (typeInfo elem).run P w' = .ok i w' ∧ i.bytes = te.bytes := by
    intro w'
    obtain ⟨i, k1, k2, k3, _⟩ := hE.info (P := P) (w := w') hT.e
    exact ⟨i, k1, k3⟩
  obtain ⟨i, hi, hib⟩ : ∃ i, P.info? elem = some i ∧ i.bytes = te.bytes := by
    obtain ⟨_, i, k1, _, k3, _⟩ := hE.ti elem te hT.e
    exact ⟨i, k1, k3⟩
  have hti : ∀ w' : World, (typeInfo elem).run P w' = .ok i w' := by intro w'; simp [typeInfo, hi]
  have hneed : ((sLen + k : Nat) : Int) ≤ IntKind.i64.max := by
    have h3 : sLen + k ≤ (2 * (sLen + k) + 768) * te.bytes := Nat.le_trans (by omega) (Nat.le_mul_of_pos_right _ hg2)
    simp only [IntKind.max, IntKind.signed, IntKind.bits, if_true]
    omega
  refine ⟨sLen + k + w.tape w.drawn (.appendCap (sLen + k) sCap elem) % (2 ^ 63 - (sLen + k)), Builtin.zeroCells uz.cells (sLen + k + w.tape w.drawn (.appendCap (sLen + k) sCap elem) % (2 ^ 63 - (sLen + k)) - (sLen + k)), by omega, by rw [zeroCells_size, hzl], ?_⟩
  have c1 : ¬ (((sLen + k : Nat) : Int) > IntKind.i64.max ∧ (False ∨ te.bytes = 0)) := fun h => by omega
  have c2 : ¬ (Builtin.nextslicecap (sLen + k) sCap * te.bytes > 2 ^ 48) := by omega
  unfold Builtin.append_
  simp only [h0, List.getElem?_toArray, List.getElem?_cons_zero, List.getElem?_cons_succ, Sem.run_bind, hE.und h1, h2, Result.andThen_ok, hE.size hT.e]
  rw [e1]
  cases hx : (argTypes.toList.drop 1)[0]? with
  | none =>
    simp only [Sem.run_bind, Sem.run_pure, Result.andThen_ok, Bool.false_eq_true, if_false, hlen, hgt, hti, hib, c1, c2, run_choose, Question.forced, Question.cut, run_askRoom,
      hold { w with drawn := w.drawn + 1 } rfl, Bool.not_false, if_true, hcells { w with drawn := w.drawn + 1 } rfl, hzero, newRow, run_newObj]
  | some t1 =>
    obtain ⟨x1, hx1, hm⟩ := zeros_some hT.x hx
    simp only [Sem.run_bind, hE.und hx1, Result.andThen_ok, Sem.run_pure]
    generalize x1.desc = d at hm ⊢
    cases d
    case int => simp [isInt] at hm
    all_goals simp only [Sem.run_bind, Result.andThen_ok, Sem.run_pure, Bool.false_eq_true, if_false, hlen, hgt, hti, hib, c1, c2, run_choose, Question.forced, Question.cut, run_askRoom,
      hold { w with drawn := w.drawn + 1 } rfl, Bool.not_false, if_true, hcells { w with drawn := w.drawn + 1 } rfl, hzero, newRow, run_newObj]

end
end
end Go.Proofs.YtofpjpeededndaaGreatDoorSim
