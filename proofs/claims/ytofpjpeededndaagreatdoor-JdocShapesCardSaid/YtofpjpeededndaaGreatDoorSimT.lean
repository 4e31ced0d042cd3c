/- CALLS OF THE LIBRARY THAT THE MACHINE TAKES BY THEIR CONTRACTS. -/
import Derived.Test.YtofpjpeededndaaGreatDoorSimS
import Derived.Lib.Bytealg
import Derived.Lib.LaidTab
set_option linter.unusedVariables false
namespace Go.Proofs.YtofpjpeededndaaGreatDoorSim
noncomputable section
open Go.RowKit (Below)

def idxN (c : Nat) : Nat → List Nat → Int
  | _, [] => -1
  | k, b :: l => cond (Nat.beq b c) (Int.ofNat k) (idxN c (Nat.succ k) l)

def cmpN : List Nat → List Nat → Int
  | [], [] => 0
  | [], _ :: _ => -1
  | _ :: _, [] => 1
  | a :: as, b :: bs => cond (Nat.blt a b) (-1) (cond (Nat.blt b a) 1 (cmpN as bs))

theorem beq_u8 {a c : Nat} (ha : a < 256) (hc : c < 256) : (UInt8.ofNat a == UInt8.ofNat c) = Nat.beq a c := by
  rw [Bool.eq_iff_iff, beq_iff_eq, Nat.beq_eq]
  constructor
  · intro h
    have := congrArg UInt8.toNat h
    simpa [UInt8.toNat_ofNat', Nat.mod_eq_of_lt, ha, hc] using this
  · rintro rfl; rfl

theorem idxN_eq {c : Nat} (hc : c < 256) : ∀ (l : List Nat) (k : Nat), (∀ x ∈ l, x < 256) →
    idxN c k l = if Lib.indexByte (l.map UInt8.ofNat) (UInt8.ofNat c) = -1 then -1 else Lib.indexByte (l.map UInt8.ofNat) (UInt8.ofNat c) + k
  | [], k, h => by simp [idxN, Lib.indexByte]
  | b :: l, k, h => by
    have hb := h b (by simp)
    have ih := idxN_eq hc l (k + 1) (fun x hx => h x (by simp [hx]))
    have hge := Lib.indexByte_ge (l.map UInt8.ofNat) (UInt8.ofNat c)
    simp only [idxN, List.map_cons, Lib.indexByte, beq_u8 hb hc]
    cases hbc : Nat.beq b c with
    | true => simp
    | false =>
      simp only [cond_false, Bool.false_eq_true, if_false]
      show idxN c (k + 1) l = _
      rw [ih]
      by_cases h1 : Lib.indexByte (l.map UInt8.ofNat) (UInt8.ofNat c) = -1
      · simp [h1]
      · have h2 : (Lib.indexByte (l.map UInt8.ofNat) (UInt8.ofNat c) == -1) = false := by simpa using h1
        simp only [h1, h2, Bool.false_eq_true, if_false]
        rw [if_neg (by omega)]
        omega

theorem lt_u8 {a b : Nat} (ha : a < 256) (hb : b < 256) : decide (UInt8.ofNat a < UInt8.ofNat b) = Nat.blt a b := by
  rw [Bool.eq_iff_iff, decide_eq_true_eq, Nat.blt_eq, UInt8.lt_iff_toNat_lt, UInt8.toNat_ofNat', UInt8.toNat_ofNat', Nat.mod_eq_of_lt ha, Nat.mod_eq_of_lt hb]

theorem cmpN_eq : ∀ (a b : List Nat), (∀ x ∈ a, x < 256) → (∀ x ∈ b, x < 256) → cmpN a b = Lib.compareBytes (a.map UInt8.ofNat) (b.map UInt8.ofNat)
  | [], [], _, _ => rfl
  | [], _ :: _, _, _ => rfl
  | _ :: _, [], _, _ => rfl
  | a :: as, b :: bs, ha, hb => by
    have h1 := ha a (by simp)
    have h2 := hb b (by simp)
    have ih := cmpN_eq as bs (fun x hx => ha x (by simp [hx])) (fun x hx => hb x (by simp [hx]))
    have e1 := lt_u8 h1 h2
    have e2 := lt_u8 h2 h1
    simp only [cmpN, List.map_cons, Lib.compareBytes, ih]
    rw [← e1, ← e2]
    by_cases c1 : UInt8.ofNat a < UInt8.ofNat b
    · simp [c1]
    · by_cases c2 : UInt8.ofNat b < UInt8.ofNat a
      · simp [c1, c2]
      · simp [c1, c2]

def pIndexByte (as : List AV) (H : AH) : Option (AV × AH) :=
  match as with
  | [.str s, .int .u8 (.ofNat c)] => match Nat.blt c 256 with
    | true => some (.int .i64 (idxN c 0 s), H)
    | false => none
  | _ => none

def pCompare (as : List AV) (H : AH) : Option (AV × AH) :=
  match as with
  | [.str a, .str b] => some (.int .i64 (cmpN a b), H)
  | _ => none

/-- strings.ContainsFunc over one function that the program names. -/
def pContains (fid : FuncId) (p : Nat → Bool) (as : List AV) (H : AH) : Option (AV × AH) :=
  match as with
  | [.str a, .func f] => match Nat.beq f fid with
    | true => some (.bool (a.any p), H)
    | false => none
  | _ => none

section
variable {P : Program} {E : Env} {N : Nat} {ρ : Pl} {H H' : AH} {w : World}

theorem Rel.below (h : Rel N ρ H w) {w' : World} (hb : Below w.heap.size w w') : Rel N ρ H w' := by
  have hc : ∀ (B i : Nat), B < w.heap.size → w'.cell? ⟨B, i, none⟩ = w.cell? ⟨B, i, none⟩ := fun B i hB => hb.cell (p := ⟨B, i, none⟩) hB
  exact {
    base := Nat.le_trans h.base hb.size
    fresh := h.fresh
    ids := h.ids
    kid := h.kid
    sep := h.sep
    one := h.one
    blk := by
      intro b ab L hab hL
      have k := h.blk b ab L hab hL
      refine { here := Nat.lt_of_lt_of_le k.here hb.size, len := k.len, cell := ?_, room := ?_, own := ?_, flat := k.flat, ty := fun e he => (let ⟨h0, c, f, h1, h2⟩ := k.ty e he; ⟨h0, c, f, by rw [hb.block _ k.here]; exact h1, h2⟩) }
      · intro i v hi
        obtain ⟨u, h1, h2⟩ := k.cell i v hi
        exact ⟨u, by rw [hc _ _ k.here]; exact h1, h2⟩
      · intro i hi
        obtain ⟨u, h1⟩ := k.room i hi
        exact ⟨u, by rw [hc _ _ k.here]; exact h1⟩
      · intro ho
        obtain ⟨h1, h2⟩ := k.own ho
        exact ⟨h1, fun c e lo hi hx => h2 c e lo hi (by rw [← hb.block _ k.here]; exact hx)⟩ }

/-- What a contract asks: a plain value, new blocks, nothing else. -/
theorem prim_of {f : FuncId} {cargs : Array Value} {v : AV} {u : Value} (hR : Rel N ρ H w) (hv : VR ρ v u)
    (h : Calls P f cargs w fun e w' => e = .returned u ∧ Below w.heap.size w w') :
    Calls P f cargs w fun e w' => ∃ u ρ', e = .returned u ∧ Lx H H ρ ρ' ∧ Rel N ρ' H w' ∧ VR ρ' v u ∧ Below N w w' :=
  h.mono fun e w' ⟨he, hb⟩ => ⟨u, ρ, he, Lx.refl _ _, hR.below hb, hv, hb.mono hR.base⟩

theorem args2 {x y : AV} {cargs : Array Value} (h : VRs ρ [x, y] cargs.toList) : ∃ u v, cargs = #[u, v] ∧ VR ρ x u ∧ VR ρ y v := by
  simp only [VRs] at h
  obtain ⟨u, _, e, hu, v, _, e2, hv, e3⟩ := h
  subst e3
  subst e2
  exact ⟨u, v, by apply Array.ext'; simpa using e, hu, hv⟩

theorem pIndexByte_ok {f : FuncId} (hc : ∀ (s : ByteArray) (c : Int) (w : World), Calls P f #[.string s, .int .u8 c] w fun e w' => e = .returned (.int .i64 (Lib.indexByte s.data.toList c.toNat.toUInt8)) ∧ w' = w)
    {as : List AV} {v : AV} {cargs : Array Value} (h : pIndexByte as H = some (v, H')) (hR : Rel N ρ H w) (ha : VRs ρ as cargs.toList) :
    Calls P f cargs w fun e w' => ∃ u ρ', e = .returned u ∧ Lx H H' ρ ρ' ∧ Rel N ρ' H' w' ∧ VR ρ' v u ∧ Below N w w' := by
  unfold pIndexByte at h
  split at h
  case h_2 => cases h
  rename_i s c
  split at h
  case h_2 => cases h
  rename_i hlt
  have hlt : c < 256 := by simpa [Nat.blt_eq] using hlt
  cases h
  obtain ⟨u1, u2, rfl, h1, h2⟩ := args2 ha
  simp only [VR] at h1 h2
  obtain ⟨rfl, hs⟩ := h1
  subst h2
  refine prim_of hR (u := .int .i64 (idxN c 0 s)) (by simp [VR]) ((hc (bs s) (Int.ofNat c) w).mono fun e w' ⟨he, hw⟩ => ⟨?_, by rw [hw]; exact Below.refl _ _⟩)
  rw [he]
  congr 2
  have e1 : (bs s).data.toList = s.map UInt8.ofNat := by simp [bs]
  have e2 : (Int.ofNat c).toNat.toUInt8 = UInt8.ofNat c := rfl
  rw [e1, e2, idxN_eq hlt s 0 hs]
  split
  · assumption
  · simp

theorem pCompare_ok {f : FuncId} (hc : ∀ (a b : ByteArray) (w : World), Calls P f #[.string a, .string b] w fun e w' => e = .returned (.int .i64 (Lib.compareBytes a.data.toList b.data.toList)) ∧ w' = w)
    {as : List AV} {v : AV} {cargs : Array Value} (h : pCompare as H = some (v, H')) (hR : Rel N ρ H w) (ha : VRs ρ as cargs.toList) :
    Calls P f cargs w fun e w' => ∃ u ρ', e = .returned u ∧ Lx H H' ρ ρ' ∧ Rel N ρ' H' w' ∧ VR ρ' v u ∧ Below N w w' := by
  unfold pCompare at h
  split at h
  case h_2 => cases h
  rename_i a b
  cases h
  obtain ⟨u1, u2, rfl, h1, h2⟩ := args2 ha
  simp only [VR] at h1 h2
  obtain ⟨rfl, hs⟩ := h1
  obtain ⟨rfl, ht⟩ := h2
  refine prim_of hR (u := .int .i64 (cmpN a b)) (by simp [VR]) ((hc (bs a) (bs b) w).mono fun e w' ⟨he, hw⟩ => ⟨?_, by rw [hw]; exact Below.refl _ _⟩)
  rw [he, cmpN_eq a b hs ht]
  simp [bs]

theorem pContains_ok {f fid : FuncId} {p : Nat → Bool} {q : ByteArray → Bool} (hq : ∀ s : List Nat, (∀ x ∈ s, x < 256) → q (bs s) = s.any p)
    (hc : ∀ (s : ByteArray) (w : World), Calls P f #[.string s, .func (.func fid) #[] #[]] w fun e w' => e = .returned (.bool (q s)) ∧ Below w.heap.size w w')
    {as : List AV} {v : AV} {cargs : Array Value} (h : pContains fid p as H = some (v, H')) (hR : Rel N ρ H w) (ha : VRs ρ as cargs.toList) :
    Calls P f cargs w fun e w' => ∃ u ρ', e = .returned u ∧ Lx H H' ρ ρ' ∧ Rel N ρ' H' w' ∧ VR ρ' v u ∧ Below N w w' := by
  unfold pContains at h
  split at h
  case h_2 => cases h
  rename_i a g
  split at h
  case h_2 => cases h
  rename_i hg
  rw [Nat.beq_eq] at hg
  subst hg
  cases h
  obtain ⟨u1, u2, rfl, h1, h2⟩ := args2 ha
  simp only [VR] at h1 h2
  obtain ⟨rfl, hs⟩ := h1
  subst h2
  refine prim_of hR (u := .bool (a.any p)) (by simp [VR]) ((hc (bs a) w).mono fun e w' ⟨he, hb⟩ => ⟨?_, hb⟩)
  rw [he, hq a hs]

/-- Where a call begins: the machine's heap has but listed tables. -/
theorem Rel.start {W : World} {H : AH} {ρ : Pl} (hid : ∀ b ab, H.m.get b = some ab → b < H.nx ∧ ab.w = false ∧ ab.t = false ∧ ab.anc = []) (hρ : ∀ b, H.nx ≤ b → ρ b = none)
    (hblk : ∀ b ab L, H.m.get b = some ab → ρ b = some L → Blk W.heap.size ρ ab L W) : Rel W.heap.size ρ H W where
  base := Nat.le_refl _
  fresh := hρ
  ids := fun b ab hb => ⟨(hid b ab hb).1, fun c hc => by rw [(hid b ab hb).2.2.2] at hc; cases hc⟩
  kid := fun b c ab ac hb hc _ => by rw [(hid b ab hb).2.2.2] at hc; cases hc
  blk := hblk
  sep := by
    intro b c ab ac L M _ hb _ _ _ _
    obtain ⟨_, h1, h2, _⟩ := hid b ab hb
    refine ⟨fun h => ?_, fun h => ?_, fun h => ?_⟩
    · rw [h1] at h; cases h
    · rw [h2] at h; cases h
    · rw [h2] at h; cases h
  one := by
    intro b c ab ac L M _ hb _ _ _ _ ho _
    obtain ⟨_, h1, h2, _⟩ := hid b ab hb
    rw [h1, h2] at ho
    rcases ho with ho | ho <;> cases ho

def tabAV (k : IntKind) (zs : List Int) : List AV := zs.map fun z => .int k z

theorem start_tab {W : World} {name : String} {k : IntKind} {zs : List Int} {g : Nat} (h : Lib.TabIs P W name k zs) (hg : P.globalNamed name = some g) (hz : 0 < zs.length) {T : PT AB}
    (hT : ∀ m, T.get m = if m = g then some ⟨tabAV k zs, false, false, [], none⟩ else none) {K : Nat} (hK : g < K) :
    Rel W.heap.size (fun b => if b = g then some ⟨g, 0, zs.length⟩ else none) ⟨T, K⟩ W := by
  refine Rel.start ?_ ?_ ?_
  · intro b ab hb
    rw [hT] at hb
    split at hb
    · rename_i e
      subst e
      cases hb
      exact ⟨hK, rfl, rfl, rfl⟩
    · cases hb
  · intro b hb
    exact if_neg (by simp only at hb; omega)
  · intro b ab L hb hL
    rw [hT] at hb
    split at hb
    · rename_i e
      subst e
      cases hb
      simp only [if_true, Option.some.injEq] at hL
      subst hL
      have hc := fun i hi => h.cell hg i hi
      refine { here := cell_block (hc 0 hz), len := by simp [tabAV], cell := ?_, room := ?_, own := ?_, flat := ?_, ty := fun e he => by cases he }
      · intro i v hi
        simp only [tabAV, List.getElem?_map] at hi
        cases hzi : zs[i]? with
        | none => rw [hzi] at hi; cases hi
        | some z =>
          rw [hzi] at hi
          simp only [Option.map_some, Option.some.injEq] at hi
          subst hi
          have hlt := (List.getElem?_eq_some_iff.1 hzi).1
          refine ⟨.int k z, ?_, by simp [VR]⟩
          simp only [Nat.zero_add]
          rw [hc i hlt, List.getD_eq_getElem?_getD, hzi]
          rfl
      · intro i hi
        simp only [Nat.zero_add]
        exact ⟨_, hc i hi⟩
      · intro ho
        simp at ho
      · intro v hv
        obtain ⟨z, _, rfl⟩ := List.mem_map.1 hv
        rfl
    · cases hb

def isTrue : Option (AV × AH) → Bool
  | some (.bool true, _) => true
  | _ => false

/-- A law's call that answers true in the machine. -/
theorem law_true {callf : CallF} {f : FuncId} {args : List AV} {H0 : AH} {W : World} {ρ : Pl} {cargs : Array Value} (hc : CallOK P E W.heap.size callf) (hG : GlobOK E ρ) (hR : Rel W.heap.size ρ H0 W)
    (hv : VRs ρ args cargs.toList) (h : isTrue (callf f args H0) = true) : Calls P f cargs W fun e w' => e = .returned (.bool true) ∧ Below W.heap.size W w' := by
  unfold isTrue at h
  split at h
  · rename_i H' hr
    refine (hc f args H0 _ H' hr ρ W cargs hG hR hv).mono fun e w' ⟨u, ρ', he, _, _, hu, hb⟩ => ⟨?_, hb⟩
    simp only [VR] at hu
    rw [he, hu]
  · cases h

end
end
end Go.Proofs.YtofpjpeededndaaGreatDoorSim
