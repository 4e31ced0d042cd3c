/- OPERATIONS THAT CHANGE MEMORY. -/
import Derived.Test.YtofpjpeededndaaGreatDoorSimE
set_option linter.unusedVariables false
namespace Go.Proofs.YtofpjpeededndaaGreatDoorSim
noncomputable section
open Go.RowKit (Below)

section
variable {P : Program} {E : Env} {N : Nat} {ρ : Pl} {H H' : AH} {w : World}

def newSlice (H : AH) (vs : List AV) (ow : Bool) (anc : List Nat) (len sz : Nat) (ty : Option TypeId) : Option (AV × AH) :=
  match H.new ⟨vs, ow, true, anc, ty⟩ with
  | some H' => some (.slice H.nx 0 len sz none, H')
  | none => none

def oldCells (H : AH) (b o sz : Nat) : Nat → Option (List AV)
  | 0 => some []
  | len => H.read b o (len * sz)

/-- The type of a row that stays where it is, or goes elsewhere. -/
def jTy (o : Nat) (a : Option TypeId) (e : TypeId) : Option TypeId :=
  match a with
  | some x => cond (Nat.beq x e && Nat.beq o 0) (some e) none
  | none => none
theorem jTy_some {o : Nat} {a : Option TypeId} {e x : TypeId} (h : jTy o a e = some x) : (a = some x ∧ o = 0) ∧ x = e := by
  unfold jTy at h
  split at h
  · rename_i y
    cases hb : (Nat.beq y e && Nat.beq o 0) with
    | false => rw [hb] at h; cases h
    | true =>
      rw [hb] at h
      simp only [Bool.and_eq_true, Nat.beq_eq] at hb
      cases h
      exact ⟨⟨by rw [hb.1], hb.2⟩, rfl⟩
  · cases h

def appendCore (H : AH) (el : TypeId) (sz bytes : Nat) (s : AV) (k : Nat) (vs : List AV) : Option (AV × AH) :=
  match s, k with
  | .nils, 0 => some (.nils, H)
  | .nils, k => match gOK k bytes with
    | true => newSlice H vs true [] k sz (some el)
    | false => none
  | .slice b o len sz' cap, 0 => match Nat.beq sz' sz with
    | true => some (.slice b o len sz' cap, H)
    | false => none
  | .slice b o len sz' cap, k =>
    match Nat.beq sz' sz && gOK (len + k) bytes with
    | false => none
    | true => match cap with
      | some c => match Nat.ble (len + k) c with
        | true => match H.write b (o + len * sz) vs with
          | some H' => some (.slice b o (len + k) sz (some c), H')
          | none => none
        | false => match oldCells H b o sz len with
          | some old => newSlice H (old ++ vs) true [] (len + k) sz (some el)
          | none => none
      | none => match H.m.get b with
        | none => none
        | some ab =>
          match Nat.ble (o + (len + k) * sz) ab.cells.length with
          | true => match H.write b (o + len * sz) vs with
            | some H' => some (.slice b o (len + k) sz none, H')
            | none => none
          | false => match ab.t, Nat.beq (o + len * sz) ab.cells.length with
            | true, true => match H.put b (some ⟨ab.cells, false, false, ab.anc, ab.ty⟩) with
              | some H1 => newSlice H1 (ab.cells.drop o ++ vs) ab.w (cond ab.w (b :: ab.anc) []) (len + k) sz (jTy o ab.ty el)
              | none => none
            | true, false => match ab.w && Nat.ble (o + len * sz) ab.cells.length with
              | true => match H.drop (b :: ab.anc) with
                | some H1 => newSlice H1 ((ab.cells.drop o).take (len * sz) ++ vs) true [] (len + k) sz (jTy o ab.ty el)
                | none => none
              | false => none
            | false, _ => none
  | _, _ => none

def aAppend (E : Env) (H : AH) (argTypes : List TypeId) (s x : AV) : Option (AV × AH) :=
  match argTypes with
  | [] => none
  | t0 :: ts => match E.ti t0 with
    | none => none
    | some ti => match ti.desc with
      | .slice elem => match E.ti elem with
        | none => none
        | some te => match te.zero with
          | none => none
          | some z => match zerosOK E ts && Nat.beq z.cells.length te.size && Nat.blt 0 te.size, srcCells H te.size x with
            | true, some (k, vs) => appendCore H elem te.size te.bytes s k vs
            | _, _ => none
      | _ => none

/-- A new row, its first cells told. -/
theorem newSlice_ok (h : Rel N ρ H w) {vs : List AV} {ow : Bool} {anc : List Nat} {len sz : Nat} {ty : Option TypeId} {v : AV} (hn : newSlice H vs ow anc len sz ty = some (v, H'))
    (hanc : ∀ c ∈ anc, c < H.nx ∧ ∀ ac, H.m.get c = some ac → ac.w = false ∧ ac.t = false) {us : List Value} (hv : VRs ρ vs us) (hf : ∀ v ∈ vs, v.flat = true) (rest : Array Value) (elem : TypeId) (hty : ∀ e, ty = some e → e = elem)
    (fr : Nat × Nat) {cap : Nat} (hcap : (us.toArray ++ rest).size = cap * sz) (hfr : fr.1 = fr.2 ∨ (us.toArray ++ rest).size ≤ fr.1) (hlen : len ≤ cap) :
    ∃ ρ', Lx H H' ρ ρ' ∧ Rel N ρ' H' { w with heap := w.heap.push (.cells (us.toArray ++ rest) elem fr) } ∧ VR ρ' v (.slice (some ⟨w.heap.size, 0, none⟩) len cap) ∧
      Below N w { w with heap := w.heap.push (.cells (us.toArray ++ rest) elem fr) } := by
  unfold newSlice at hn
  split at hn
  case h_2 => cases hn
  rename_i H1 hnew
  cases hn
  have hl := hv.length
  refine ⟨_, Lx.ext _ (h.fresh _ (Nat.le_refl _)) (new_get hnew).1, h.new hnew hanc (us.toArray ++ rest) elem fr hfr ?_ ?_ hf hty, ?_, below_push N (Below.refl _ _) h.base _⟩
  · show vs.length ≤ _
    simp only [Array.size_append, List.size_toArray]
    omega
  · intro i v hi
    obtain ⟨u, h1, h2⟩ := hv.get i v hi
    refine ⟨u, ?_, h2⟩
    have hlt : i < us.toArray.size := by simp only [List.size_toArray]; exact (List.getElem?_eq_some_iff.1 h1).1
    rw [Array.getElem?_append_left hlt]
    simpa using h1
  · simp only [VR]
    refine ⟨_, _, cap, ext_same _ _ _, rfl, hlen, .inr ⟨trivial, ?_, .inr rfl⟩⟩
    simp only [Nat.zero_add]
    exact hcap.symm

theorem old_ok (h : Rel N ρ H w) {b o len sz : Nat} {cap : Option Nat} {base : Option Addr} {c : Nat} (hs : VR ρ (.slice b o len sz cap) (.slice base len c)) {old : List AV} (ho : oldCells H b o sz len = some old) :
    old.length = len * sz ∧ (∀ v ∈ old, v.flat = true) ∧ ∃ us : List Value, VRs ρ old us ∧ ∀ w' : World, w'.heap = w.heap → (Builtin.firstCells sz len (.slice base len c)).run P w' = .ok us.toArray w' := by
  cases len with
  | zero =>
    cases ho
    refine ⟨by simp, fun v hv => (by cases hv), [], by simp [VRs], fun w' _ => ?_⟩
    cases base with
    | none => rfl
    | some a => simp [Builtin.firstCells, loadCells, loadCellsFrom]
  | succ len =>
    obtain ⟨L, c', hL, e, hle, _⟩ := slice_addr hs
    cases e
    obtain ⟨us, hl, hv, hc⟩ := h.cellsAt ho hL
    obtain ⟨h1, h2, _⟩ := h.read ho hL
    refine ⟨h1, h2, us, hv, fun w' hw => ?_⟩
    simp only [Builtin.firstCells]
    rw [← hl]
    refine run_loadCells _ _ us fun j u hu => ?_
    have := hc j u hu
    simp only [World.cell?] at this ⊢
    rw [hw]; exact this

theorem append_ok (hE : EnvOK P E) (h : Rel N ρ H w) {argTypes : Array TypeId} {s x v : AV} {us ux : Value} (hs : VR ρ s us) (hx : VR ρ x ux) (ha : aAppend E H argTypes.toList s x = some (v, H')) (ty : TypeId) :
    ∃ u ρ' w', (Builtin.append_ argTypes ty #[us, ux]).run P w = .ok u w' ∧ Lx H H' ρ ρ' ∧ Rel N ρ' H' w' ∧ VR ρ' v u ∧ Below N w w' := by
  unfold aAppend at ha
  split at ha
  · cases ha
  rename_i t0 ts htl
  split at ha
  · cases ha
  rename_i ti hti
  split at ha
  case h_2 => cases ha
  rename_i elem hd
  split at ha
  · cases ha
  rename_i te hte
  split at ha
  · cases ha
  rename_i z hz
  split at ha
  case h_2 => cases ha
  rename_i k vs hcond hsrc
  simp only [Bool.and_eq_true, Nat.beq_eq, Nat.blt_eq] at hcond
  obtain ⟨⟨hzs, hzl⟩, hpos⟩ := hcond
  have hT : AppT P E argTypes elem te z := {
    s := ⟨t0, ti, by rw [← Array.getElem?_toList, htl]; rfl, hti, hd⟩
    x := by rw [htl]; exact hzs
    e := hte
    z0 := hz
    zl := hzl
    pos := hpos }
  obtain ⟨hlen, hvl, hvf, uxs, hvr, hcells⟩ := src_ok (P := P) h hx hsrc
  have huxl := hvr.length
  have hcw := hcells w rfl
  -- the row grows: what the world is then
  have grow : ∀ {base : Option Addr} {sLen sCap : Nat} {olds : List Value} {ρ1 : Pl} {H1 : AH} {old : List AV} {ow : Bool} {anc : List Nat} {nty : Option TypeId}, us = .slice base sLen sCap →
      (∀ w' : World, w'.heap = w.heap → (Builtin.firstCells te.size sLen (.slice base sLen sCap)).run P w' = .ok olds.toArray w') →
      ¬ sLen + k ≤ sCap → gOK (sLen + k) te.bytes = true → H1.nx = H.nx → Rel N ρ H1 w → newSlice H1 (old ++ vs) ow anc (sLen + k) te.size nty = some (v, H') → (∀ e, nty = some e → e = elem) →
      (∀ c ∈ anc, c < H1.nx ∧ ∀ ac, H1.m.get c = some ac → ac.w = false ∧ ac.t = false) → VRs ρ old olds → (∀ v ∈ old, v.flat = true) → old.length = sLen * te.size →
      ∃ u ρ' w', (Builtin.append_ argTypes ty #[us, ux]).run P w = .ok u w' ∧ Lx H H' ρ ρ' ∧ Rel N ρ' H' w' ∧ VR ρ' v u ∧ Below N w w' := by
    intro base sLen sCap olds ρ1 H1 old ow anc nty e hold hgt hg hnx hr hn hnty hanc hov hof hol
    subst e
    obtain ⟨newCap, rest, hc1, hc2, hrun⟩ := append_grow hE hT (ty := ty) hlen hcells hold hgt hg
    have holl := hov.length
    have hsz : ((olds ++ uxs).toArray ++ rest).size = newCap * te.size := by
      simp only [Array.size_append, List.size_toArray, List.length_append]
      rw [hc2, holl, huxl, hol, hvl, ← Nat.add_mul, ← Nat.add_mul]
      congr 1
      omega
    obtain ⟨ρ', g1, g2, g3, g4⟩ := newSlice_ok (hr.drew (w.drawn + 1)) hn hanc (hov.append hvr) (fun v hv => by
      rcases List.mem_append.1 hv with h | h
      · exact hof v h
      · exact hvf v h) rest elem hnty (0, 0) hsz (.inl rfl) hc1
    refine ⟨_, ρ', _, hrun, g1.pre hnx, ?_, g3, ?_⟩
    · have : olds.toArray ++ uxs.toArray ++ rest = (olds ++ uxs).toArray ++ rest := by simp
      rw [this]; exact g2
    · have : olds.toArray ++ uxs.toArray ++ rest = (olds ++ uxs).toArray ++ rest := by simp
      rw [this]; exact ⟨g4.os, g4.tape, g4.output, g4.size, g4.block⟩
  unfold appendCore at ha
  split at ha
  · -- nothing is appended to nil
    cases ha
    simp only [VR] at hs
    subst hs
    refine ⟨_, ρ, w, append_in hE hT (ty := ty) hlen hcells (by omega) (base := none) (w1 := w) (fun a ha => by cases ha) (fun _ => rfl), Lx.refl _ _, h, by simp [VR], Below.refl _ _⟩
  · -- nil grows
    rename_i hk
    split at ha
    case h_2 => cases ha
    rename_i hg
    simp only [VR] at hs
    subst hs
    cases k with
    | zero => exact absurd rfl hk
    | succ k =>
      refine grow (ρ1 := ρ) (olds := []) (old := []) (ow := true) (anc := []) rfl (fun w' _ => rfl) (by omega) (by simpa using hg) rfl h (by simpa using ha) (fun e he => by cases he; rfl) (fun c hc => by cases hc) (by simp [VRs]) (fun v hv => by cases hv) (by simp)
  · -- nothing is appended
    rename_i b o len sz' cap
    split at ha
    case h_2 => cases ha
    rename_i hsz
    cases ha
    have hs0 := hs
    simp only [VR] at hs
    obtain ⟨L, a, c, hL, rfl, hle, hrest⟩ := hs
    have hus : uxs = [] := by
      have : uxs.length = 0 := by omega
      exact List.length_eq_zero_iff.1 this
    subst hus
    refine ⟨_, ρ, w, append_in hE hT (ty := ty) hlen hcells (by omega) (base := some a) (w1 := w) (fun a' _ => by simp [storeCells]) (fun e => by cases e), Lx.refl _ _, h, by simpa using hs0, Below.refl _ _⟩
  · -- a slice
    rename_i b o len sz' cap hk
    have hk : 0 < k := Nat.pos_of_ne_zero fun e => hk e
    split at ha
    · cases ha
    rename_i hcond
    simp only [Bool.and_eq_true, Nat.beq_eq] at hcond
    obtain ⟨hsz, hg⟩ := hcond
    subst hsz
    have hs0 := hs
    simp only [VR] at hs
    obtain ⟨L, a, c, hL, rfl, hle, hrest⟩ := hs
    split at ha
    · -- the capacity is known
      rename_i cc
      rcases hrest with ⟨e, rfl⟩ | ⟨e, _⟩
      case inr => cases e
      cases e
      split at ha
      · rename_i hfit
        rw [Nat.ble_eq] at hfit
        split at ha
        case h_2 => cases ha
        rename_i H1 hwr
        cases ha
        obtain ⟨r, hN, hthere, hfl, hnx⟩ := h.write hwr hL hvr
        have hst := run_storeCells (P := P) L.B (L.o + o + len * te.size) uxs 0 w (hvr.one hfl) (fun j hj => by
          have := hthere j hj
          rw [show L.o + (o + len * te.size) + j = L.o + o + len * te.size + 0 + j by omega] at this
          exact this)
        refine ⟨_, ρ, _, append_in hE hT (ty := ty) hlen hcells hfit (base := some ⟨L.B, L.o + o, none⟩) (fun a ha => by cases ha; rw [add_eq]; exact hst) (fun e => by cases e), Lx.same hnx, ?_, ?_, ?_⟩
        · rw [show L.o + o + len * te.size + 0 = L.o + (o + len * te.size) by omega]; exact r
        · simp only [VR]
          exact ⟨L, _, c, hL, rfl, hfit, .inl ⟨rfl, rfl⟩⟩
        · exact putCells_below N L.B hN _ _ _ _ (Below.refl _ _)
      · rename_i hfit
        have hfit : ¬ len + k ≤ c := by rw [← Bool.not_eq_true, Nat.ble_eq] at hfit; exact hfit
        split at ha
        case h_2 => cases ha
        rename_i old ho
        obtain ⟨k1, k2, olds, k3, k4⟩ := old_ok (P := P) h hs0 ho
        exact grow (ρ1 := ρ) rfl k4 hfit hg rfl h ha (fun e he => by cases he; rfl) (fun c hc => by cases hc) k3 k2 k1
    · -- the capacity is not known
      rcases hrest with ⟨e, _⟩ | ⟨_, hext, haddr⟩
      case inl => cases e
      split at ha
      · cases ha
      rename_i ab hab
      have kb := h.blk b ab L hab hL
      have hlx := kb.len
      have mulLe : ∀ {m n : Nat}, m * te.size ≤ n * te.size → m ≤ n := fun hh => Nat.le_of_mul_le_mul_right hh hpos
      split at ha
      · -- within the block
        rename_i hfit
        rw [Nat.ble_eq] at hfit
        split at ha
        case h_2 => cases ha
        rename_i H1 hwr
        cases ha
        have hcap : len + k ≤ c := mulLe (by omega)
        have haddr := haddr.resolve_left (by omega)
        subst haddr
        obtain ⟨r, hN, hthere, hfl, hnx⟩ := h.write hwr hL hvr
        have hst := run_storeCells (P := P) L.B (L.o + o + len * te.size) uxs 0 w (hvr.one hfl) (fun j hj => by
          have := hthere j hj
          rw [show L.o + (o + len * te.size) + j = L.o + o + len * te.size + 0 + j by omega] at this
          exact this)
        refine ⟨_, ρ, _, append_in hE hT (ty := ty) hlen hcells hcap (base := some ⟨L.B, L.o + o, none⟩) (fun a ha => by cases ha; rw [add_eq]; exact hst) (fun e => by cases e), Lx.same hnx, ?_, ?_, ?_⟩
        · rw [show L.o + o + len * te.size + 0 = L.o + (o + len * te.size) by omega]; exact r
        · simp only [VR]
          exact ⟨L, _, c, hL, rfl, hcap, .inr ⟨trivial, hext, .inr rfl⟩⟩
        · exact putCells_below N L.B hN _ _ _ _ (Below.refl _ _)
      · rename_i hfit
        have hfit : ¬ o + (len + k) * te.size ≤ ab.cells.length := by rw [← Bool.not_eq_true, Nat.ble_eq] at hfit; exact hfit
        have hvsl : vs.length = k * te.size := hvl
        split at ha
        · -- behind its end
          rename_i ht hend
          rw [Nat.beq_eq] at hend
          split at ha
          case h_2 => cases ha
          rename_i H1 hp
          obtain ⟨hn1, hg1⟩ := put_get hp
          by_cases hroom : len + k ≤ c
          · -- in place
            have haddr := haddr.resolve_left (by omega)
            subst haddr
            unfold newSlice at ha
            split at ha
            case h_2 => cases ha
            rename_i H2 hnew
            cases ha
            have hfits : ab.cells.length + uxs.length ≤ L.x := by
              have : (len + k) * te.size ≤ c * te.size := Nat.mul_le_mul_right _ hroom
              rw [Nat.add_mul] at this
              omega
            obtain ⟨r, hN, hthere⟩ := h.behind (o := o) hab hL ht (by omega) hp (fun e he => (jTy_some he).1) hnew hvr hfits hvf
            have hst := run_storeCells (P := P) L.B (L.o + o + len * te.size) uxs 0 w (hvr.one hvf) (fun j hj => by
              have := hthere j hj
              rw [show L.o + ab.cells.length + j = L.o + o + len * te.size + 0 + j by omega] at this
              exact this)
            refine ⟨_, ext ρ H.nx ⟨L.B, L.o + o, L.x - o⟩, _, append_in hE hT (ty := ty) hlen hcells hroom (base := some ⟨L.B, L.o + o, none⟩) (fun a ha => by cases ha; rw [add_eq]; exact hst) (fun e => by cases e), Lx.ext _ (h.fresh _ (Nat.le_refl _)) (by have := (new_get hnew).1; omega), ?_, ?_, ?_⟩
            · rw [show L.o + o + len * te.size + 0 = L.o + ab.cells.length by omega]; exact r
            · simp only [VR]
              refine ⟨⟨L.B, L.o + o, L.x - o⟩, _, c, by rw [hn1]; exact ext_same _ _ _, rfl, hroom, .inr ⟨trivial, ?_, .inr rfl⟩⟩
              simp only
              omega
            · exact putCells_below N L.B hN _ _ _ _ (Below.refl _ _)
          · -- elsewhere
            have ho : oldCells H b o te.size len = some (ab.cells.drop o) := by
              have hdl : (ab.cells.drop o).length = len * te.size := by simp; omega
              cases len with
              | zero =>
                simp only [oldCells]
                congr 1
                exact (List.length_eq_zero_iff.1 (by simpa using hdl)).symm
              | succ len =>
                simp only [oldCells, AH.read, hab]
                have : Nat.ble (o + (len + 1) * te.size) ab.cells.length = true := by rw [Nat.ble_eq]; omega
                rw [this]
                simp only
                rw [← hdl, List.take_length]
            obtain ⟨k1, k2, olds, k3, k4⟩ := old_ok (P := P) h hs0 ho
            refine grow (ρ1 := ρ) rfl k4 hroom hg hn1 (h.shut hab hp) ha (fun e he => (jTy_some he).2) (fun cc hc => ?_) k3 k2 k1
            cases hw : ab.w with
            | false => rw [hw] at hc; cases hc
            | true =>
              rw [hw] at hc
              have hc' : cc = b ∨ cc ∈ ab.anc := by
                cases hc with
                | head => exact .inl rfl
                | tail _ hc => exact .inr hc
              obtain ⟨hb1, hb2⟩ := h.ids b ab hab
              rcases hc' with rfl | hc'
              · refine ⟨by omega, fun ac hac => ?_⟩
                rw [hg1, if_pos rfl] at hac
                cases hac
                exact ⟨rfl, rfl⟩
              · refine ⟨by have := hb2 cc hc'; omega, fun ac hac => ?_⟩
                rw [hg1] at hac
                split at hac
                · cases hac; exact ⟨rfl, rfl⟩
                · exact h.kid b cc ab ac hab hc' hac
        · -- over its end
          rename_i ht hend
          split at ha
          case h_2 => cases ha
          rename_i hcond
          simp only [Bool.and_eq_true, Nat.ble_eq] at hcond
          obtain ⟨hw, hin⟩ := hcond
          split at ha
          case h_2 => cases ha
          rename_i H1 hp
          obtain ⟨r1, hn1, hgone, heither, hkeep⟩ := h.lose_all hp
          by_cases hroom : len + k ≤ c
          · have haddr := haddr.resolve_left (by omega)
            subst haddr
            unfold newSlice at ha
            split at ha
            case h_2 => cases ha
            rename_i H2 hnew
            cases ha
            have hmul : (len + k) * te.size ≤ c * te.size := Nat.mul_le_mul_right _ hroom
            rw [Nat.add_mul] at hmul hfit
            obtain ⟨r, hN, hthere⟩ := h.over (o := o) (n := len * te.size) hab hL ht hw hin hp (fun e he => (jTy_some he).1) hnew hvr (by omega) (by omega) hvf
            have hst := run_storeCells (P := P) L.B (L.o + o + len * te.size) uxs 0 w (hvr.one hvf) (fun j hj => by
              have := hthere j hj
              rw [show L.o + o + len * te.size + j = L.o + o + len * te.size + 0 + j by omega] at this
              exact this)
            refine ⟨_, ext ρ H.nx ⟨L.B, L.o + o, L.x - o⟩, _, append_in hE hT (ty := ty) hlen hcells hroom (base := some ⟨L.B, L.o + o, none⟩) (fun a ha => by cases ha; rw [add_eq]; exact hst) (fun e => by cases e), Lx.ext _ (h.fresh _ (Nat.le_refl _)) (by have := (new_get hnew).1; omega), ?_, ?_, ?_⟩
            · rw [show L.o + o + len * te.size + 0 = L.o + o + len * te.size by omega]; exact r
            · simp only [VR]
              refine ⟨⟨L.B, L.o + o, L.x - o⟩, _, c, by rw [hn1]; exact ext_same _ _ _, rfl, hroom, .inr ⟨trivial, ?_, .inr rfl⟩⟩
              simp only
              omega
            · exact putCells_below N L.B hN _ _ _ _ (Below.refl _ _)
          · have ho : oldCells H b o te.size len = some ((ab.cells.drop o).take (len * te.size)) := by
              cases len with
              | zero => simp [oldCells]
              | succ len =>
                simp only [oldCells, AH.read, hab]
                have : Nat.ble (o + (len + 1) * te.size) ab.cells.length = true := by rw [Nat.ble_eq]; omega
                rw [this]
            obtain ⟨k1, k2, olds, k3, k4⟩ := old_ok (P := P) h hs0 ho
            exact grow (ρ1 := ρ) rfl k4 hroom hg hn1 r1 ha (fun e he => (jTy_some he).2) (fun cc hc => by cases hc) k3 k2 k1
        · cases ha
  · cases ha

end
end
end Go.Proofs.YtofpjpeededndaaGreatDoorSim
