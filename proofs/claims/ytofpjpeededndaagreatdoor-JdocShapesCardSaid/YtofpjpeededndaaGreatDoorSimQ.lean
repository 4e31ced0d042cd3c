/- OPERATIONS THAT NEITHER READ NOR CHANGE MEMORY, the rest. -/
import Derived.Test.YtofpjpeededndaaGreatDoorSimP
set_option linter.unusedVariables false
namespace Go.Proofs.YtofpjpeededndaaGreatDoorSim
noncomputable section
open Go.RowKit (Below)

section
variable {P : Program} {E : Env} {N : Nat} {ρ : Pl} {H H' : AH} {w : World}

def evo (E : Env) (g : Nat → AV) : Option Operand → Option (Option AV)
  | none => some none
  | some x => match evg E g x with
    | some v => some (some v)
    | none => none

def VRo (ρ : Pl) : Option AV → Option Value → Prop
  | none, u => u = none
  | some v, u => ∃ x, u = some x ∧ VR ρ v x

theorem evo_VR {n : Nat} {g : Nat → AV} {a : Act} (hg : GlobOK E ρ) (h : FRg ρ n g a) {x : Option Operand} {v : Option AV} (hv : evo E g x = some v) : VRo ρ v (x.map a.eval) := by
  cases x with
  | none => cases hv; rfl
  | some x =>
    simp only [evo] at hv
    split at hv
    · rename_i v' h'
      cases hv
      exact ⟨_, rfl, evg_VR hg h h'⟩
    · cases hv

def aBound (x : AV) (y : Nat) : Option Nat :=
  match x with
  | .int _ (.ofNat m) => match Nat.ble m y with
    | true => some m
    | false => none
  | _ => none

theorem aBound_ok {x : AV} {u : Value} {y y' m : Nat} (hx : VR ρ x u) (h : aBound x y = some m) (hy : y ≤ y') (code : BoundsCode) :
    (Instr.sliceBound u y' code).run P w = .ok m w ∧ m ≤ y := by
  unfold aBound at h
  split at h
  · split at h
    · rename_i hb
      rw [Nat.ble_eq] at hb
      cases h
      simp only [VR] at hx
      subst hx
      refine ⟨?_, hb⟩
      simp only [Instr.sliceBound, asIntOf, Sem.run_bind, Sem.run_pure, Result.andThen_ok]
      rw [if_pos ⟨Int.natCast_nonneg _, by simpa using Nat.le_trans hb hy⟩]
      rfl
    · cases h
  · cases h

def aBounds (len cap : Nat) (lo hi mx : Option AV) : Option (Nat × Nat × Nat) :=
  match (match mx with | some v => aBound v cap | none => some cap) with
  | none => none
  | some m =>
    match (match hi, mx with | some v, _ => aBound v m | none, none => some len | none, some _ => none) with
    | none => none
    | some h =>
      match (match lo with | some v => aBound v h | none => some 0) with
      | none => none
      | some l => some (l, h, m)

theorem aBounds_ok {isSlice : Bool} {len cap cap' : Nat} {lo hi mx : Option AV} {lo' hi' mx' : Option Value} (hlo : VRo ρ lo lo') (hhi : VRo ρ hi hi') (hmx : VRo ρ mx mx') {l h m : Nat}
    (hb : aBounds len cap lo hi mx = some (l, h, m)) (hc : cap ≤ cap') (hlen : len ≤ cap) :
    (Instr.sliceBounds isSlice len cap' lo' hi' mx').run P w = .ok (l, h, if mx.isSome then m else cap') w ∧ l ≤ h ∧ h ≤ m ∧ m ≤ cap ∧ (mx = none → m = cap) := by
  unfold aBounds at hb
  split at hb
  · cases hb
  rename_i m0 hm
  split at hb
  · cases hb
  rename_i h0 hh
  split at hb
  · cases hb
  rename_i l0 hl
  cases hb
  cases mx with
  | none =>
    cases hmx
    cases hm
    simp only [Option.isSome_none, Bool.false_eq_true, if_false]
    cases hi with
    | none =>
      cases hhi
      cases hh
      cases lo with
      | none =>
        cases hlo
        cases hl
        exact ⟨by simp [Instr.sliceBounds], Nat.zero_le _, hlen, Nat.le_refl _, by simp⟩
      | some v =>
        obtain ⟨x, rfl, hx⟩ := hlo
        obtain ⟨k1, k2⟩ := aBound_ok (P := P) (w := w) hx hl (Nat.le_refl _) .sliceB
        exact ⟨by simp [Instr.sliceBounds, k1], k2, hlen, Nat.le_refl _, by simp⟩
    | some v =>
      obtain ⟨x, rfl, hx⟩ := hhi
      obtain ⟨j1, j2⟩ := aBound_ok (P := P) (w := w) hx hh hc (if isSlice then .sliceAcap else .sliceAlen)
      cases lo with
      | none =>
        cases hlo
        cases hl
        exact ⟨by simp [Instr.sliceBounds, j1], Nat.zero_le _, j2, Nat.le_refl _, by simp⟩
      | some v =>
        obtain ⟨y, rfl, hy⟩ := hlo
        obtain ⟨k1, k2⟩ := aBound_ok (P := P) (w := w) hy hl (Nat.le_refl _) .sliceB
        exact ⟨by simp [Instr.sliceBounds, j1, k1], k2, j2, Nat.le_refl _, by simp⟩
  | some vm =>
    obtain ⟨z, rfl, hz⟩ := hmx
    obtain ⟨i1, i2⟩ := aBound_ok (P := P) (w := w) hz hm hc (if isSlice then .slice3Acap else .slice3Alen)
    simp only [Option.isSome_some, if_true]
    cases hi with
    | none => cases hh
    | some v =>
      obtain ⟨x, rfl, hx⟩ := hhi
      obtain ⟨j1, j2⟩ := aBound_ok (P := P) (w := w) hx hh (Nat.le_refl _) .slice3B
      cases lo with
      | none =>
        cases hlo
        cases hl
        exact ⟨by simp [Instr.sliceBounds, i1, j1], Nat.zero_le _, j2, i2, fun e => by cases e⟩
      | some v =>
        obtain ⟨y, rfl, hy⟩ := hlo
        obtain ⟨k1, k2⟩ := aBound_ok (P := P) (w := w) hy hl (Nat.le_refl _) .slice3C
        exact ⟨by simp [Instr.sliceBounds, i1, j1, k1], k2, j2, i2, fun e => by cases e⟩

def aSlice (E : Env) (t : TypeId) (x : AV) (lo hi mx : Option AV) : Option AV :=
  match E.ti t with
  | none => none
  | some ti =>
    match ti.desc, x with
    | .array n elem, .ptr b o => match E.ti elem, aBounds n n lo hi mx with
      | some te, some (l, h, m) => some (.slice b (cond (Nat.beq m l) o (o + l * te.size)) (h - l) te.size (some (m - l)))
      | _, _ => none
    | .string, .str s => match mx with
      | none => match aBounds s.length s.length lo hi none with
        | some (l, h, _) => some (.str ((s.take h).drop l))
        | none => none
      | some _ => none
    | .slice elem, .slice b o len sz (some c) => match E.ti elem, Nat.ble len c, aBounds len c lo hi mx with
      | some te, true, some (l, h, m) => match Nat.beq te.size sz with
        | true => some (.slice b (cond (Nat.beq m l) o (o + l * sz)) (h - l) sz (some (m - l)))
        | false => none
      | _, _, _ => none
    | .slice elem, .slice b o len sz none => match E.ti elem, aBounds len len lo hi mx with
      | some te, some (l, h, m) => match Nat.beq te.size sz with
        | true => match mx with
          | none => some (.slice b (o + l * sz) (h - l) sz none)
          | some _ => match Nat.blt 0 len with
            | true => some (.slice b (cond (Nat.beq m l) o (o + l * sz)) (h - l) sz (some (m - l)))
            | false => none
        | false => none
      | _, _ => none
    | .slice elem, .nils => match E.ti elem, aBounds 0 0 lo hi mx with
      | some te, some _ => some .nils
      | _, _ => none
    | _, _ => none

theorem beq_cond {α : Type} (m l : Nat) (x y : α) : cond (Nat.beq m l) x y = if m = l then x else y := by
  by_cases h : m = l
  · have : Nat.beq m l = true := by rw [Nat.beq_eq]; exact h
    rw [if_pos h, this]; rfl
  · rw [if_neg h]
    have : Nat.beq m l = false := by rw [← Bool.not_eq_true, Nat.beq_eq]; exact h
    rw [this]; rfl

theorem extract_bs (s : List Nat) (l h : Nat) : (bs s).extract l h = bs ((s.take h).drop l) := by
  apply ByteArray.ext
  rw [ByteArray.data_extract]
  apply Array.ext'
  simp only [bs, Array.toList_extract, List.extract_eq_take_drop, List.map_drop, List.map_take]
  rw [List.drop_take]

theorem aSlice_ok (hE : EnvOK P E) {t : TypeId} {x : AV} {u : Value} {lo hi mx : Option AV} {lo' hi' mx' : Option Value} (hx : VR ρ x u) (hlo : VRo ρ lo lo') (hhi : VRo ρ hi hi') (hmx : VRo ρ mx mx')
    {v : AV} (h : aSlice E t x lo hi mx = some v) : ∃ r, (Instr.sliceAt t u lo' hi' mx').run P w = .ok r w ∧ VR ρ v r := by
  unfold aSlice at h
  split at h
  · cases h
  rename_i ti hti
  unfold Instr.sliceAt
  simp only [Sem.run_bind, hE.und hti, Result.andThen_ok]
  split at h
  · rename_i n elem b o hd
    rw [hd]
    simp only
    split at h
    case h_2 => cases h
    rename_i te l h' m hte hb
    cases h
    simp only [VR] at hx
    obtain ⟨L, hL, rfl⟩ := hx
    obtain ⟨e, h1, h2, h3, h4⟩ := aBounds_ok (P := P) (w := w) (isSlice := false) hlo hhi hmx hb (Nat.le_refl _) (Nat.le_refl _)
    have em : (if mx.isSome then m else n) = m := by
      cases mx with
      | none => simp [h4 rfl]
      | some v => rfl
    rw [em] at e
    simp only [Instr.sureAddr, Sem.run_bind, Sem.run_pure, Result.andThen_ok, e, hE.size hte, beq_cond]
    refine ⟨_, rfl, ?_⟩
    simp only [VR]
    refine ⟨L, _, m - l, hL, rfl, by omega, .inl ⟨rfl, ?_⟩⟩
    split
    · rfl
    · rw [add_eq, Nat.add_assoc]
  · rename_i s hd
    rw [hd]
    simp only
    split at h
    case h_2 => cases h
    split at h
    case h_2 => cases h
    rename_i l h' m hb
    cases h
    simp only [VR] at hx
    obtain ⟨rfl, hs⟩ := hx
    cases hmx
    obtain ⟨e, h1, h2, h3, h4⟩ := aBounds_ok (P := P) (w := w) (isSlice := false) (ρ := ρ) (mx := none) (mx' := none) hlo hhi rfl hb (Nat.le_refl _) (Nat.le_refl _)
    unfold Instr.slice
    simp only [Sem.run_bind, hE.und hti, hd, Result.andThen_ok, Option.isSome_none, Bool.false_eq_true, if_false, bs_size, e, Sem.run_pure]
    refine ⟨_, rfl, ?_⟩
    simp only [VR]
    exact ⟨by rw [extract_bs], fun a ha => hs a (List.mem_of_mem_take (List.mem_of_mem_drop ha))⟩
  · rename_i elem b o len sz c hd
    rw [hd]
    simp only
    split at h
    case h_2 => cases h
    rename_i te l h' m hte hlc hb
    rw [Nat.ble_eq] at hlc
    split at h
    case h_2 => cases h
    rename_i hsz
    rw [Nat.beq_eq] at hsz
    cases h
    simp only [VR] at hx
    obtain ⟨L, a, c', hL, rfl, hle, hx⟩ := hx
    rcases hx with ⟨e1, rfl⟩ | ⟨e1, _⟩
    case inr => cases e1
    cases e1
    obtain ⟨e, h1, h2, h3, h4⟩ := aBounds_ok (P := P) (w := w) (isSlice := true) hlo hhi hmx hb (Nat.le_refl _) hlc
    have em : (if mx.isSome then m else c) = m := by
      cases mx with
      | none => simp [h4 rfl]
      | some v => rfl
    rw [em] at e
    unfold Instr.slice
    simp only [Sem.run_bind, hE.und hti, hd, Result.andThen_ok, e, hE.size hte, Sem.run_pure, beq_cond]
    refine ⟨_, rfl, ?_⟩
    simp only [VR]
    refine ⟨L, _, m - l, hL, ?_, by omega, .inl ⟨rfl, rfl⟩⟩
    split
    · rfl
    · simp only [Option.map_some, add_eq, hsz, Nat.add_assoc]
  · rename_i elem b o len sz hd
    rw [hd]
    simp only
    split at h
    case h_2 => cases h
    rename_i te l h' m hte hb
    split at h
    case h_2 => cases h
    rename_i hsz
    rw [Nat.beq_eq] at hsz
    simp only [VR] at hx
    obtain ⟨L, a, c', hL, rfl, hle, hx⟩ := hx
    rcases hx with ⟨e1, _⟩ | ⟨_, hc, ha⟩
    case inl => cases e1
    obtain ⟨e, h1, h2, h3, h4⟩ := aBounds_ok (P := P) (w := w) (isSlice := true) hlo hhi hmx hb hle (Nat.le_refl _)
    unfold Instr.slice
    simp only [Sem.run_bind, hE.und hti, hd, Result.andThen_ok, e, hE.size hte, Sem.run_pure]
    split at h
    · cases h
      simp only [Option.isSome_none, Bool.false_eq_true, if_false]
      refine ⟨_, rfl, ?_⟩
      simp only [VR]
      by_cases hcl : c' = l
      · subst hcl
        refine ⟨L, a, 0, hL, by simp, by omega, .inr ⟨trivial, ?_, .inl rfl⟩⟩
        omega
      · refine ⟨L, a.add (l * te.size), c' - l, hL, by rw [if_neg hcl]; rfl, by omega, .inr ⟨trivial, ?_, .inr ?_⟩⟩
        · rw [Nat.sub_mul, Nat.add_assoc, ← Nat.add_sub_assoc (Nat.mul_le_mul_right _ (by omega)), Nat.add_sub_cancel_left]; exact hc
        · rcases ha with ha | ha
          · omega
          · rw [ha, add_eq, hsz, Nat.add_assoc]
    · rename_i vm
      split at h
      case h_2 => cases h
      rename_i hpos
      have hpos : 0 < len := by simpa [Nat.blt_eq] using hpos
      cases h
      have ha := ha.resolve_left (by omega)
      subst ha
      simp only [Option.isSome_some, if_true, beq_cond]
      refine ⟨_, rfl, ?_⟩
      simp only [VR]
      refine ⟨L, _, m - l, hL, ?_, by omega, .inl ⟨rfl, rfl⟩⟩
      split
      · rfl
      · simp only [Option.map_some, add_eq, hsz, Nat.add_assoc]
  · rename_i elem hd
    rw [hd]
    simp only
    split at h
    case h_2 => cases h
    rename_i te lhm hte hb
    obtain ⟨l, h', m⟩ := lhm
    cases h
    simp only [VR] at hx
    subst hx
    obtain ⟨e, h1, h2, h3, h4⟩ := aBounds_ok (P := P) (w := w) (isSlice := true) hlo hhi hmx hb (Nat.le_refl _) (Nat.le_refl _)
    have em : (if mx.isSome then m else 0) = m := by
      cases mx with
      | none => simp [h4 rfl]
      | some v => rfl
    rw [em] at e
    unfold Instr.slice
    simp only [Sem.run_bind, hE.und hti, hd, Result.andThen_ok, e, hE.size hte, Sem.run_pure]
    refine ⟨_, rfl, ?_⟩
    have hm : m = 0 := by omega
    have hl : l = 0 := by omega
    have hh : h' = 0 := by omega
    subst hm; subst hl; subst hh
    simp [VR]
  · cases h

/-! ### places -/
def aFieldAddr (E : Env) (s : TypeId) (x : AV) (f : Nat) : Option AV :=
  match E.ti s, x with
  | some ti, .ptr b o => match ti.desc with
    | .struct fields => match fields.toList[f]? with
      | some fd => match E.ti fd.type with
        | some tf => match Nat.beq tf.size 0 with
          | false => some (.ptr b (o + fd.offset))
          | true => none
        | none => none
      | none => none
    | _ => none
  | _, _ => none

theorem aFieldAddr_ok (hE : EnvOK P E) {s : TypeId} {x : AV} {u : Value} {f : Nat} {v : AV} (hx : VR ρ x u) (h : aFieldAddr E s x f = some v) :
    ∃ r, (Instr.fieldAt s u f).run P w = .ok r w ∧ VR ρ v r := by
  unfold aFieldAddr at h
  split at h
  case h_2 => cases h
  rename_i ti b o hti
  split at h
  case h_2 => cases h
  rename_i fields hd
  split at h
  case h_2 => cases h
  rename_i fd hfd
  split at h
  case h_2 => cases h
  rename_i tf htf
  split at h
  case h_2 => cases h
  rename_i hz
  have hz : tf.size ≠ 0 := by rw [← Bool.not_eq_true, Nat.beq_eq] at hz; exact hz
  cases h
  simp only [VR] at hx
  obtain ⟨L, hL, rfl⟩ := hx
  rw [Array.getElem?_toList] at hfd
  unfold Instr.fieldAt
  simp only [Sem.run_bind, hE.und hti, hd, Result.andThen_ok, hfd, Instr.sureAddr, Sem.run_pure, fieldPlace, hE.size htf, hz, if_false]
  exact ⟨_, rfl, by simp only [VR]; exact ⟨L, hL, by rw [add_eq, Nat.add_assoc]⟩⟩

def aField (E : Env) (t : TypeId) (x : AV) (f : Nat) : Option AV :=
  match E.ti t, x with
  | some ti, .agg cs => match ti.desc with
    | .struct fields => match fields.toList[f]? with
      | some fd => aPart E fd.type cs fd.offset
      | none => none
    | _ => none
  | _, _ => none

theorem aField_ok (hE : EnvOK P E) {t : TypeId} {x : AV} {u : Value} {f : Nat} {v : AV} (hx : VR ρ x u) (h : aField E t x f = some v) :
    ∃ r, (Instr.field t u f).run P w = .ok r w ∧ VR ρ v r := by
  unfold aField at h
  split at h
  case h_2 => cases h
  rename_i ti cs hti
  split at h
  case h_2 => cases h
  rename_i fields hd
  split at h
  case h_2 => cases h
  rename_i fd hfd
  simp only [VR] at hx
  obtain ⟨us, rfl, hx⟩ := hx
  rw [Array.getElem?_toList] at hfd
  unfold Instr.field
  simp only [Sem.run_bind, hE.und hti, hd, Result.andThen_ok, hfd, asAgg, Sem.run_pure]
  exact part_ok hE hx h

def aIndexAddr (E : Env) (t : TypeId) (x ix : AV) : Option AV :=
  match E.ti t with
  | none => none
  | some ti => match ti.desc, x, ix with
    | .slice elem, .slice b o len sz _, .int _ (.ofNat i) => match Nat.blt i len, E.ti elem with
      | true, some te => match Nat.beq te.size sz with
        | true => some (.ptr b (o + i * sz))
        | false => none
      | _, _ => none
    | .array len elem, .ptr b o, .int _ (.ofNat i) => match Nat.blt i len, E.ti elem with
      | true, some te => some (.ptr b (o + i * te.size))
      | _, _ => none
    | _, _, _ => none

theorem aIndexAddr_ok (hE : EnvOK P E) {t : TypeId} {x ix : AV} {u i : Value} {v : AV} (hx : VR ρ x u) (hi : VR ρ ix i) (h : aIndexAddr E t x ix = some v) :
    ∃ r, (Instr.indexAt t u i).run P w = .ok r w ∧ VR ρ v r := by
  unfold aIndexAddr at h
  split at h
  · cases h
  rename_i ti hti
  split at h
  · rename_i elem b o len sz cap k n hd
    split at h
    case h_2 => cases h
    rename_i te hlt hte
    have hlt : n < len := by simpa [Nat.blt_eq] using hlt
    split at h
    case h_2 => cases h
    rename_i hsz
    rw [Nat.beq_eq] at hsz
    cases h
    simp only [VR] at hx hi
    subst hi
    obtain ⟨L, a, c', hL, rfl, hle, hx⟩ := hx
    have ha : a = ⟨L.B, L.o + o, none⟩ := by
      rcases hx with ⟨_, e⟩ | ⟨_, _, e | e⟩
      · exact e
      · omega
      · exact e
    subst ha
    unfold Instr.indexAt
    simp only [Sem.run_bind, asIntOf, Sem.run_pure, hE.und hti, hd, Result.andThen_ok]
    have hc : (0 : Int) ≤ Int.ofNat n ∧ Int.ofNat n < (len : Int) := ⟨Int.natCast_nonneg _, by simpa using hlt⟩
    rw [if_pos hc]
    simp only [Sem.run_bind, hE.size hte, Result.andThen_ok, Sem.run_pure]
    exact ⟨_, rfl, by simp only [VR]; exact ⟨L, hL, by rw [add_eq, hsz, Nat.add_assoc]; rfl⟩⟩
  · rename_i len elem b o k n hd
    split at h
    case h_2 => cases h
    rename_i te hlt hte
    have hlt : n < len := by simpa [Nat.blt_eq] using hlt
    cases h
    simp only [VR] at hx hi
    subst hi
    obtain ⟨L, hL, rfl⟩ := hx
    unfold Instr.indexAt
    simp only [Sem.run_bind, asIntOf, Sem.run_pure, hE.und hti, hd, Result.andThen_ok, Instr.sureAddr]
    have hc : (0 : Int) ≤ Int.ofNat n ∧ Int.ofNat n < (len : Int) := ⟨Int.natCast_nonneg _, by simpa using hlt⟩
    rw [if_pos hc]
    simp only [Sem.run_bind, hE.size hte, Result.andThen_ok, Sem.run_pure]
    exact ⟨_, rfl, by simp only [VR]; exact ⟨L, hL, by rw [add_eq, Nat.add_assoc]; rfl⟩⟩
  · cases h

def aIndex (E : Env) (t : TypeId) (x ix : AV) : Option AV :=
  match E.ti t with
  | none => none
  | some ti => match ti.desc, x, ix with
    | .array len elem, .agg cs, .int _ (.ofNat i) => match Nat.blt i len, E.ti elem with
      | true, some te => aPart E elem cs (i * te.size)
      | _, _ => none
    | .string, .str s, .int _ (.ofNat i) => match s[i]? with
      | some b => some (.int .u8 (Int.ofNat b))
      | none => none
    | _, _, _ => none

theorem bs_get (s : List Nat) (i : Nat) : (bs s)[i]? = s[i]?.map UInt8.ofNat := by
  by_cases h : i < s.length
  · rw [ByteArray.getElem?_lt' _ _ (by rw [bs_size]; exact h), List.getElem?_eq_getElem h]
    simp only [Option.map_some]
    congr 1
    show (bs s).data[i]'_ = _
    simp [bs]
  · rw [ByteArray.getElem?_ge' _ _ (by rw [bs_size]; exact h), List.getElem?_eq_none (by omega)]
    rfl

theorem aIndex_ok (hE : EnvOK P E) {t : TypeId} {x ix : AV} {u i : Value} {v : AV} (hx : VR ρ x u) (hi : VR ρ ix i) (h : aIndex E t x ix = some v) :
    ∃ r, (Instr.index t u i).run P w = .ok r w ∧ VR ρ v r := by
  unfold aIndex at h
  split at h
  · cases h
  rename_i ti hti
  split at h
  · rename_i len elem cs k n hd
    split at h
    case h_2 => cases h
    rename_i te hlt hte
    have hlt : n < len := by simpa [Nat.blt_eq] using hlt
    simp only [VR] at hx hi
    subst hi
    obtain ⟨us, rfl, hx⟩ := hx
    unfold Instr.index
    simp only [Sem.run_bind, asIntOf, Sem.run_pure, hE.und hti, hd, Result.andThen_ok]
    have hc : (0 : Int) ≤ Int.ofNat n ∧ Int.ofNat n < (len : Int) := ⟨Int.natCast_nonneg _, by simpa using hlt⟩
    rw [if_pos hc]
    simp only [Sem.run_bind, hE.size hte, Result.andThen_ok]
    exact part_ok hE hx h
  · rename_i s k n hd
    split at h
    case h_2 => cases h
    rename_i b hb
    cases h
    simp only [VR] at hx hi
    subst hi
    obtain ⟨rfl, hs⟩ := hx
    unfold Instr.index
    simp only [Sem.run_bind, asIntOf, Sem.run_pure, hE.und hti, hd, Result.andThen_ok]
    rw [if_pos (show (0 : Int) ≤ Int.ofNat n from Int.natCast_nonneg _)]
    have : (bs s)[(Int.ofNat n).toNat]? = some (UInt8.ofNat b) := by
      show (bs s)[n]? = _
      rw [bs_get, hb]; rfl
    rw [this]
    refine ⟨_, rfl, ?_⟩
    simp only [VR]
    have hlt := hs b (List.mem_of_getElem? hb)
    rw [UInt8.toNat_ofNat', Nat.mod_eq_of_lt hlt]
    rfl
  · cases h

/-! ### literals -/
def aFill (place : Nat → Option (Nat × Nat)) (cells : List AV) : List (Nat × AV) → Option (List AV)
  | [] => some cells
  | (i, v) :: rest => match place i with
    | none => none
    | some (off, size) => match Nat.beq v.cells.length size && Nat.ble (off + v.cells.length) cells.length with
      | true => aFill place (splice cells off v.cells) rest
      | false => none

theorem foldl_set (off : Nat) : ∀ (us : List Value) (j : Nat) (cells : Array Value), off + j + us.length ≤ cells.size →
    ((us.zipIdx j).foldl (fun (cs : Array Value) (x : Value × Nat) => cs.setIfInBounds (off + x.2) x.1) cells).toList = cells.toList.take (off + j) ++ us ++ cells.toList.drop (off + j + us.length)
  | [], j, cells, h => by simp
  | u :: us, j, cells, h => by
    simp only [List.length_cons] at h
    simp only [List.zipIdx_cons, List.foldl_cons]
    rw [foldl_set off us (j + 1) _ (by simp only [Array.size_setIfInBounds]; omega)]
    simp only [Array.toList_setIfInBounds]
    have hl : off + j < cells.toList.length := by simp only [Array.length_toList]; omega
    apply List.ext_getElem?
    intro i
    simp only [List.append_assoc, List.length_cons]
    have t1 : ((cells.toList.set (off + j) u).take (off + (j + 1))).length = off + j + 1 := by simp only [List.length_take, List.length_set, Array.length_toList]; omega
    have t2 : (cells.toList.take (off + j)).length = off + j := by simp only [List.length_take, Array.length_toList]; omega
    by_cases h1 : i < off + j
    · rw [List.getElem?_append_left (by omega), List.getElem?_append_left (by omega), List.getElem?_take, List.getElem?_take, if_pos (by omega), if_pos h1, List.getElem?_set_ne (by omega)]
    · by_cases h2 : i = off + j
      · subst h2
        rw [List.getElem?_append_left (by omega), List.getElem?_append_right (by omega), List.getElem?_take, if_pos (by omega), List.getElem?_set_self (by omega), t2, Nat.sub_self]
        rfl
      · generalize hA : (cells.toList.set (off + j) u).take (off + (j + 1)) = A at t1 ⊢
        generalize hB : cells.toList.take (off + j) = B at t2 ⊢
        rw [List.getElem?_append_right (l₁ := A) (by omega), List.getElem?_append_right (l₁ := B) (by omega), t1, t2, show i - (off + j) = (i - (off + j + 1)) + 1 by omega, List.cons_append, List.getElem?_cons_succ]
        by_cases h3 : i - (off + j + 1) < us.length
        · rw [List.getElem?_append_left h3, List.getElem?_append_left h3]
        · rw [List.getElem?_append_right (by omega), List.getElem?_append_right (by omega), List.getElem?_drop, List.getElem?_drop, List.getElem?_set_ne (by omega)]
          congr 1
          omega

theorem VRs_splice {cs vs : List AV} {us xs : List Value} (h : VRs ρ cs us) (k : VRs ρ vs xs) (o : Nat) : VRs ρ (splice cs o vs) (us.take o ++ xs ++ us.drop (o + xs.length)) := by
  unfold splice
  rw [k.length]
  exact ((h.take o).append k).append (h.drop _)

theorem aFill_ok {place : Nat → Option (Nat × Nat)} : ∀ (ps : List (Nat × AV)) (us : List (Nat × Value)) (cells : List AV) (ucells : Array Value) (r : List AV),
    ps.map (·.1) = us.map (·.1) → VRs ρ (ps.map (·.2)) (us.map (·.2)) → VRs ρ cells ucells.toList → aFill place cells ps = some r →
    ∃ ur, Instr.fill place ucells us = some ur ∧ VRs ρ r ur.toList
  | [], us, cells, ucells, r, h1, h2, hc, h => by
    cases us with
    | nil => cases h; exact ⟨ucells, rfl, hc⟩
    | cons => simp at h1
  | (i, v) :: ps, us, cells, ucells, r, h1, h2, hc, h => by
    cases us with
    | nil => simp at h1
    | cons p us =>
      obtain ⟨j, u⟩ := p
      simp only [List.map_cons, List.cons.injEq] at h1
      obtain ⟨e, h1⟩ := h1
      subst e
      simp only [List.map_cons, VRs] at h2
      obtain ⟨u0, us0, e, hv, h2⟩ := h2
      obtain ⟨rfl, rfl⟩ := List.cons.inj e
      simp only [aFill] at h
      split at h
      · cases h
      rename_i off size hp
      split at h
      case h_2 => cases h
      rename_i hb
      simp only [Bool.and_eq_true, Nat.beq_eq, Nat.ble_eq] at hb
      have hcl := hc.length
      have hvc := hv.cells
      have hvl := hvc.length
      rw [Array.length_toList] at hcl hvl
      have hsp : off + 0 + u.cells.toList.length ≤ ucells.size := by rw [Array.length_toList]; omega
      have hset : VRs ρ (splice cells off v.cells) (u.cells.zipIdx.foldl (fun (cs : Array Value) (x : Value × Nat) => cs.setIfInBounds (off + x.2) x.1) ucells).toList := by
        rw [← Array.foldl_toList, Array.toList_zipIdx, foldl_set off u.cells.toList 0 ucells hsp]
        exact VRs_splice hc hvc off
      obtain ⟨ur, k1, k2⟩ := aFill_ok ps us _ _ r h1 h2 hset h
      refine ⟨ur, ?_, k2⟩
      simp only [Instr.fill, hp]
      rw [if_neg (by simp only [ne_eq, Bool.or_eq_true, decide_eq_true_eq, not_or]; omega)]
      exact k1

end
end
end Go.Proofs.YtofpjpeededndaaGreatDoorSim
