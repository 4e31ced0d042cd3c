/- REGIONS: whatever order the tape gives, the operations of a region come to what they come to one behind the other. -/
import Derived.Test.YtofpjpeededndaaGreatDoorSimO
set_option linter.unusedVariables false
namespace Go.Proofs.YtofpjpeededndaaGreatDoorSim
noncomputable section
open Go.RowKit (Below)

def look (T : PT AV) (t : Nat) : AV := match T.get t with | some v => v | none => .und

mutual
def AV.beq : AV → AV → Bool
  | .bool a, .bool b => a == b
  | .int k n, .int l m => decide (k = l) && decide (n = m)
  | .str s, .str t => decide (s = t)
  | .ptr a b, .ptr c d => Nat.beq a c && Nat.beq b d
  | .nilp, .nilp => true
  | .slice a b c d e, .slice a' b' c' d' e' => Nat.beq a a' && Nat.beq b b' && Nat.beq c c' && Nat.beq d d' && decide (e = e')
  | .nils, .nils => true
  | .func f, .func g => Nat.beq f g
  | .clo f a, .clo g b => Nat.beq f g && AV.beqs a b
  | .nilf, .nilf => true
  | .nili, .nili => true
  | .iface t v, .iface u x => Nat.beq t u && AV.beq v x
  | .agg a, .agg b => AV.beqs a b
  | .tup a, .tup b => AV.beqs a b
  | _, _ => false
def AV.beqs : List AV → List AV → Bool
  | [], [] => true
  | a :: as, b :: bs => AV.beq a b && AV.beqs as bs
  | _, _ => false
end

mutual
theorem AV.eq_of_beq : ∀ (a b : AV), AV.beq a b = true → a = b
  | .bool a, b, h => by cases b <;> simp_all [AV.beq]
  | .int k n, b, h => by cases b <;> simp_all [AV.beq]
  | .str s, b, h => by cases b <;> simp_all [AV.beq]
  | .ptr x y, b, h => by cases b <;> simp_all [AV.beq]
  | .nilp, b, h => by cases b <;> simp_all [AV.beq]
  | .slice x y z u v, b, h => by cases b <;> simp_all [AV.beq]
  | .nils, b, h => by cases b <;> simp_all [AV.beq]
  | .func f, b, h => by cases b <;> simp_all [AV.beq]
  | .clo f x, b, h => by
    cases b
    case clo g y =>
      simp only [AV.beq, Bool.and_eq_true, Nat.beq_eq] at h
      rw [h.1, AV.eq_of_beqs x y h.2]
    all_goals simp [AV.beq] at h
  | .nilf, b, h => by cases b <;> simp_all [AV.beq]
  | .nili, b, h => by cases b <;> simp_all [AV.beq]
  | .iface t v, b, h => by
    cases b
    case iface u x =>
      simp only [AV.beq, Bool.and_eq_true, Nat.beq_eq] at h
      rw [h.1, AV.eq_of_beq v x h.2]
    all_goals simp [AV.beq] at h
  | .agg x, b, h => by
    cases b
    case agg y => simp only [AV.beq] at h; rw [AV.eq_of_beqs x y h]
    all_goals simp [AV.beq] at h
  | .tup x, b, h => by
    cases b
    case tup y => simp only [AV.beq] at h; rw [AV.eq_of_beqs x y h]
    all_goals simp [AV.beq] at h
theorem AV.eq_of_beqs : ∀ (a b : List AV), AV.beqs a b = true → a = b
  | [], [], h => rfl
  | [], _ :: _, h => by simp [AV.beqs] at h
  | _ :: _, [], h => by simp [AV.beqs] at h
  | a :: as, b :: bs, h => by
    simp only [AV.beqs, Bool.and_eq_true] at h
    rw [AV.eq_of_beq a b h.1, AV.eq_of_beqs as bs h.2]
end

/-- Is an operation wanted, by what its guard gave? -/
def wantedA (ops : Array Oper) (g : Nat → AV) (o : Oper) : Bool :=
  match o.guard with
  | none => true
  | some (j, want) =>
    match (ops[j]?).bind (·.dst) with
    | some t => match g t with
      | .bool b => b == want
      | _ => false
    | none => false

structure FRg (ρ : Pl) (n : Nat) (g : Nat → AV) (a : Act) : Prop where
  size : a.tmps.size = n
  defers : a.defers = []
  tmp : ∀ t, VR ρ (g t) (a.tmps.getD t undef)

theorem look_eq (T : PT AV) (t : Nat) : look T t = (T.get t).getD .und := by unfold look; cases T.get t <;> rfl
theorem FRg.of {ρ : Pl} {n : Nat} {T : PT AV} {a : Act} (h : FR ρ n T a) : FRg ρ n (look T) a :=
  ⟨h.size, h.defers, fun t => by rw [look_eq]; exact h.tmp t⟩
theorem FRg.to {ρ : Pl} {n : Nat} {T : PT AV} {a : Act} (h : FRg ρ n (look T) a) : FR ρ n T a :=
  ⟨h.size, h.defers, fun t => by rw [← look_eq]; exact h.tmp t⟩
theorem FRg.mono {ρ ρ' : Pl} {n : Nat} {g : Nat → AV} {a : Act} (h : FRg ρ n g a) (hl : Le ρ ρ') : FRg ρ' n g a :=
  ⟨h.size, h.defers, fun t => (h.tmp t).mono hl⟩
theorem FRg.congr {ρ : Pl} {n : Nat} {g g' : Nat → AV} {a : Act} (h : FRg ρ n g a) (e : ∀ t, g' t = g t) : FRg ρ n g' a :=
  ⟨h.size, h.defers, fun t => by rw [e]; exact h.tmp t⟩
theorem FRg.put {ρ : Pl} {n : Nat} {g g' : Nat → AV} {a : Act} (h : FRg ρ n g a) {dst : Option Tmp} {v : AV} {u : Value} (hd : ∀ d, dst = some d → d < n ∧ g' d = v)
    (ho : ∀ t, dst ≠ some t → g' t = g t) (hv : VR ρ v u) : FRg ρ n g' (a.put dst u) := by
  cases dst with
  | none => exact h.congr fun t => ho t (by simp)
  | some d =>
    obtain ⟨hlt, hg⟩ := hd d rfl
    have hlt : @LT.lt Nat _ d n := hlt
    refine ⟨by simp [Act.put, h.size], h.defers, fun t => ?_⟩
    have hsz := h.size
    by_cases e : t = d
    · subst e
      simp only [Act.put]
      rw [Array.getD_eq_getD_getElem?, Array.getElem?_setIfInBounds_self_of_lt (by omega), hg]
      exact hv
    · rw [ho t (fun h => e (Option.some.inj h).symm)]
      have := h.tmp t
      simp only [Act.put]
      rw [Array.getD_eq_getD_getElem?] at this ⊢
      rw [Array.getElem?_setIfInBounds_ne (fun h => e h.symm)]
      exact this

theorem VR_bool {ρ : Pl} {v : AV} {b : Bool} (h : VR ρ v (.bool b)) : v = .bool b := by
  cases v <;> simp [VR] at h
  · rw [h]

theorem wanted_ok {ρ : Pl} {n : Nat} {g : Nat → AV} {a : Act} (h : FRg ρ n g a) (ops : Array Oper) (o : Oper) :
    Region.wanted o (yielded ops a.tmps) = wantedA ops g o := by
  unfold Region.wanted wantedA
  cases o.guard with
  | none => rfl
  | some jw =>
    obtain ⟨j, want⟩ := jw
    simp only [yielded]
    cases (ops[j]?).bind (·.dst) with
    | none => rfl
    | some t =>
      have ht := h.tmp t
      rw [Array.getD_eq_getD_getElem?] at ht
      simp only [Option.bind_some]
      cases hx : a.tmps[t]? with
      | none =>
        rw [hx] at ht
        simp only [Option.getD_none, undef] at ht
        cases hg : g t <;> rw [hg] at ht <;> simp_all [VR]
      | some x =>
        rw [hx] at ht
        simp only [Option.getD_some] at ht
        cases hg : g t <;> rw [hg] at ht <;> simp only [VR] at ht
        case bool b => subst ht; rfl
        case str => obtain ⟨rfl, _⟩ := ht; rfl
        case ptr => obtain ⟨_, _, rfl⟩ := ht; rfl
        case slice => obtain ⟨_, _, _, _, rfl, _⟩ := ht; rfl
        case iface => obtain ⟨_, rfl, _⟩ := ht; rfl
        case clo => obtain ⟨_, rfl, _⟩ := ht; rfl
        case agg => obtain ⟨_, rfl, _⟩ := ht; rfl
        case tup => obtain ⟨_, rfl, _⟩ := ht; rfl
        all_goals (subst ht; rfl)

/-- A step function for operations, and what is asked of it. -/
abbrev StepF := (Nat → AV) → AH → Oper → Option (AV × AH)

structure StepOK (P : Program) (E : Env) (N : Nat) (X : StepF) (eff reads : Oper → Bool) : Prop where
  sound : ∀ {ρ : Pl} {n : Nat} {g : Nat → AV} {a : Act} {H H' : AH} {w : World} {o : Oper} {v : AV}, X g H o = some (v, H') → GlobOK E ρ → Rel N ρ H w → FRg ρ n g a →
    ∀ {next : Act → World → Prop} {Q : Exit → Act → World → Prop},
    (∀ u ρ' w', Lx H H' ρ ρ' → Rel N ρ' H' w' → VR ρ' v u → Below N w w' → next (a.put o.dst u) w') → o.wp P a w next Q
  congr : ∀ {g g' : Nat → AV} {H : AH} {o : Oper} {v : AV} {H' : AH}, (∀ t, .tmp t ∈ o.op.operands.toList → g' t = g t) → X g H o = some (v, H') → X g' H o = some (v, H')
  free : ∀ {g : Nat → AV} {H H' : AH} {o : Oper} {v : AV} {t : TypeId}, o.op = .alloc t → X g H o = some (v, H') →
    ∃ cells e, H.new ⟨cells, true, false, [], some e⟩ = some H' ∧ v = .ptr H.nx 0 ∧ (∀ x ∈ cells, x.flat = true) ∧
      ∃ (us : Array Value), (∀ ρ, VRs ρ cells us.toList) ∧ ∀ (a : Act) (w : World), (execOp a.eval o).run P w = .ok (.value (.pointer (some ⟨w.heap.size, 0, none⟩))) { w with heap := w.heap.push (.cells us e) }
  quiet : ∀ {g : Nat → AV} {H H' : AH} {o : Oper} {v : AV}, eff o = false → X g H o = some (v, H') → H' = H
  pure : ∀ {g : Nat → AV} {H H' H2 : AH} {o : Oper} {v : AV}, eff o = false → reads o = false → X g H o = some (v, H') → X g H2 o = some (v, H2)

section
variable (X : StepF) (n : Nat) (ops : Array Oper)

def stepA (T : PT AV) (H : AH) (o : Oper) : Option (PT AV × AH) :=
  match wantedA ops (look T) o with
  | true => match X (look T) H o with
    | some (v, H') => match setT n T o.dst v with
      | some T' => some (T', H')
      | none => none
    | none => none
  | false => match setT n T o.dst .und with
    | some T' => some (T', H)
    | none => none

def runOps : List Oper → PT AV → AH → Option (PT AV × AH)
  | [], T, H => some (T, H)
  | o :: os, T, H => match stepA X n ops T H o with
    | some (T', H') => runOps os T' H'
    | none => none

/-- The same, with the heaps ahead of each operation, and at the end. -/
def runAll : List Oper → PT AV → AH → Option (PT AV × AH × List AH)
  | [], T, H => some (T, H, [H])
  | o :: os, T, H => match stepA X n ops T H o with
    | some (T', H') => match runAll os T' H' with
      | some (T2, H2, l) => some (T2, H2, H :: l)
      | none => none
    | none => none

end

section
variable {P : Program} {E : Env} {N : Nat} {X : StepF} {eff reads : Oper → Bool} {n : Nat} {ops : Array Oper}

theorem setT_look {T T' : PT AV} {dst : Option Tmp} {v : AV} (h : setT n T dst v = some T') :
    (∀ d, dst = some d → d < n ∧ look T' d = v) ∧ ∀ t, dst ≠ some t → look T' t = look T t := by
  cases dst with
  | none => cases h; exact ⟨fun d hd => (by cases hd), fun t _ => rfl⟩
  | some d =>
    simp only [setT] at h
    split at h
    · rename_i hd
      have hd : @LT.lt Nat _ d n := by simpa [Nat.blt_eq] using hd
      have hg := PT.get_set _ _ _ _ _ h
      refine ⟨fun d' hd' => ?_, fun t ht => ?_⟩
      · cases hd'
        exact ⟨hd, by rw [look_eq, hg, if_pos rfl]; rfl⟩
      · rw [look_eq, look_eq, hg, if_neg (fun e => ht (by rw [e]))]
    · cases h

theorem stepA_wp (hX : StepOK P E N X eff reads) {ρ : Pl} {T T' : PT AV} {H H' : AH} {a : Act} {w : World} {o : Oper} {i : Nat} (hi : ops[i]? = some o)
    (hs : stepA X n ops T H o = some (T', H')) (hG : GlobOK E ρ) (hR : Rel N ρ H w) (hF : FRg ρ n (look T) a) {K : Act → World → Prop} {Q : Exit → Act → World → Prop}
    (hK : ∀ a' ρ' w', Lx H H' ρ ρ' → Rel N ρ' H' w' → FRg ρ' n (look T') a' → Below N w w' → K a' w') : wpOp P ops Q i K a w := by
  unfold wpOp
  simp only [hi]
  rw [wanted_ok hF]
  unfold stepA at hs
  split at hs
  · rename_i hw
    rw [hw, if_pos rfl]
    split at hs
    · rename_i v H1 hx
      split at hs
      · rename_i T1 hT
        cases hs
        obtain ⟨h1, h2⟩ := setT_look hT
        exact .inl (hX.sound hx hG hR hF fun u ρ' w' hl hr hv hb => hK _ ρ' w' hl hr ((hF.mono hl.le).put h1 h2 hv) hb)
      · cases hs
    · cases hs
  · rename_i hw
    rw [hw, if_neg (by simp)]
    split at hs
    · rename_i T1 hT
      cases hs
      obtain ⟨h1, h2⟩ := setT_look hT
      exact hK _ ρ w (Lx.refl _ _) hR (hF.put h1 h2 (by simp [VR, AV.und, VRs, undef])) (Below.refl _ _)
    · cases hs

theorem runOps_wp (hX : StepOK P E N X eff reads) {T' : PT AV} {H' : AH} {Q : Exit → Act → World → Prop} : ∀ (os : List Oper) (k : Nat) (T : PT AV) (H : AH) (ρ : Pl) (a : Act) (w w0 : World),
    ops.toList.drop k = os → runOps X n ops os T H = some (T', H') → GlobOK E ρ → Rel N ρ H w → FRg ρ n (look T) a → Below N w0 w →
    (∀ a' ρ' w', Lx H H' ρ ρ' → Rel N ρ' H' w' → FRg ρ' n (look T') a' → Below N w0 w' → Q .normal a' w') → wpOps P ops Q (List.range' k os.length) a w
  | [], k, T, H, ρ, a, w, w0, hd, hr, hG, hR, hF, hB, hQ => by
    cases hr
    exact hQ a ρ w (Lx.refl _ _) hR hF hB
  | o :: os, k, T, H, ρ, a, w, w0, hd, hr, hG, hR, hF, hB, hQ => by
    simp only [runOps] at hr
    split at hr
    · rename_i T1 H1 hs
      have hi : ops[k]? = some o := by
        rw [← Array.getElem?_toList]
        have := congrArg (·[0]?) hd
        simpa using this
      have hd' : ops.toList.drop (k + 1) = os := by
        rw [← List.drop_drop, hd]; rfl
      simp only [List.length_cons, List.range'_succ]
      rw [wpOps_cons]
      refine stepA_wp hX hi hs hG hR hF fun a' ρ' w' hl hr' hf hb => ?_
      exact runOps_wp hX os (k + 1) T1 H1 ρ' a' w' w0 hd' hr (hG.mono hl.le) hr' hf (hB.trans hb) fun a2 ρ2 w2 hl2 => hQ a2 ρ2 w2 (hl.trans hl2)
    · cases hr

theorem region_wp (hX : StepOK P E N X eff reads) {T T' : PT AV} {H H' : AH} {ρ : Pl} {a : Act} {w : World} {id : Nat} {Q : Exit → Act → World → Prop}
    (hr : runOps X n ops ops.toList T H = some (T', H')) (hG : GlobOK E ρ) (hR : Rel N ρ H w) (hF : FRg ρ n (look T) a)
    (hQ : ∀ a' ρ' w', Lx H H' ρ ρ' → Rel N ρ' H' w' → FRg ρ' n (look T') a' → Below N w w' → Q .normal a' w') : (Code.region id ops false).wp P Q a w := by
  refine wp_region ?_
  have := runOps_wp hX ops.toList 0 T H ρ a w w (by simp) hr hG hR hF (Below.refl _ _) hQ
  rw [List.range_eq_range']
  simpa using this

end
end
end Go.Proofs.YtofpjpeededndaaGreatDoorSim
