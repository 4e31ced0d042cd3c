/- THE ABSTRACT MACHINE RUNS CODE AND CALLS; what it comes to, the program comes to, in every world and by every tape. -/
import Derived.Test.YtofpjpeededndaaGreatDoorSimD
set_option linter.unusedVariables false
namespace Go.Proofs.YtofpjpeededndaaGreatDoorSim
noncomputable section
open Go.RowKit (Below)

inductive Ex where
  | normal
  | exit (id : Nat)
  | ret

abbrev CallF := FuncId → List AV → AH → Option (AV × AH)
abbrev RunF := Nat → Code → PT AV → AH → Option (Ex × PT AV × AH)

def body (eff reads : Oper → Bool) (mk : CallF → StepF) (callf : CallF) (ih : Code → PT AV → AH → Option (Ex × PT AV × AH)) (n : Nat) (g : PT AV → Operand → Option AV) :
    Code → PT AV → AH → Option (Ex × PT AV × AH)
  | .skip, T, H => some (.normal, T, H)
  | .label _, T, H => some (.normal, T, H)
  | .region _ ops false, T, H => match runOps (mk callf) n ops ops.toList T H with
    | some (T', H') => some (.normal, T', H')
    | none => none
  | .region _ ops true, T, H => match drawOps eff reads (mk callf) n ops T H with
    | some (T', H') => some (.normal, T', H')
    | none => none
  | .seq a b, T, H => match ih a T H with
    | some (.normal, T', H') => ih b T' H'
    | r => r
  | .cond c x y, T, H => match g T c with
    | some (.bool true) => ih x T H
    | some (.bool false) => ih y T H
    | _ => none
  | .block id c, T, H => match ih c T H with
    | some (.exit id', T', H') => match Nat.beq id' id with
      | true => some (.normal, T', H')
      | false => some (.exit id', T', H')
    | r => r
  | .loop c, T, H => match ih c T H with
    | some (.normal, T', H') => ih (.loop c) T' H'
    | r => r
  | .scope c, T, H => ih c T H
  | .exit id, T, H => some (.exit id, T, H)
  | .ret, T, H => some (.ret, T, H)
  | _, _, _ => none

def fill0 : Nat → List AV → PT AV → Option (PT AV)
  | _, [], T => some T
  | i, v :: vs, T => match T.set 64 i (some v) with
    | some T => fill0 (Nat.succ i) vs T
    | none => none

def aResult (E : Env) (T : PT AV) (H : AH) : ResultVar → Option AV
  | .tmp t => some (look T t)
  | .cell a t => aLoad E H t (look T a)

def aResults (E : Env) (T : PT AV) (H : AH) : List ResultVar → Option (List AV)
  | [] => some []
  | r :: rs => match aResult E T H r with
    | some v => match aResults E T H rs with
      | some vs => some (v :: vs)
      | none => none
    | none => none

def theResult : List AV → AV
  | [v] => v
  | vs => .tup vs

def callBody (E : Env) (run : RunF) : CallF := fun f args H =>
  match E.prim f with
  | some p => p args H
  | none => match E.fn f with
    | some fn => match fn.body with
      | some c => match fill0 0 args .lf with
        | some T => match run (Nat.max args.length fn.ntmps) c T H with
          | some (.normal, T', H') | some (.ret, T', H') => match aResults E T' H' fn.results.toList with
            | some vs => some (theResult vs, H')
            | none => none
          | _ => none
        | none => none
      | none => none
    | none => none

def run (E : Env) (eff reads : Oper → Bool) (mk : CallF → StepF) : Nat → RunF
  | 0 => fun _ _ _ _ => none
  | fuel + 1 => fun n c T H => body eff reads mk (callBody E (run E eff reads mk fuel)) (run E eff reads mk fuel n) n (fun T => ev E T) c T H

def callN (E : Env) (eff reads : Oper → Bool) (mk : CallF → StepF) (fuel : Nat) : CallF := callBody E (run E eff reads mk fuel)

/-! ### soundness -/
section
variable {P : Program} {E : Env} {N : Nat} {eff reads : Oper → Bool} {mk : CallF → StepF}

def CallOK (P : Program) (E : Env) (N : Nat) (callf : CallF) : Prop :=
  ∀ (f : FuncId) (args : List AV) (H : AH) (v : AV) (H' : AH), callf f args H = some (v, H') → ∀ (ρ : Pl) (w : World) (cargs : Array Value), GlobOK E ρ → Rel N ρ H w → VRs ρ args cargs.toList →
    Calls P f cargs w fun e w' => ∃ u ρ', e = .returned u ∧ Lx H H' ρ ρ' ∧ Rel N ρ' H' w' ∧ VR ρ' v u ∧ Below N w w'

def PrimOK (P : Program) (E : Env) (N : Nat) : Prop :=
  ∀ (f : FuncId) (p : List AV → AH → Option (AV × AH)), E.prim f = some p → ∀ (args : List AV) (H : AH) (v : AV) (H' : AH), p args H = some (v, H') → ∀ (ρ : Pl) (w : World) (cargs : Array Value), GlobOK E ρ → Rel N ρ H w → VRs ρ args cargs.toList →
    Calls P f cargs w fun e w' => ∃ u ρ', e = .returned u ∧ Lx H H' ρ ρ' ∧ Rel N ρ' H' w' ∧ VR ρ' v u ∧ Below N w w'

def exOK : Ex → Exit → Prop
  | .normal, .normal => True
  | .exit i, .exit j => i = j
  | .ret, .ret => True
  | _, _ => False

def Post (N : Nat) (n : Nat) (ρ : Pl) (H : AH) (w0 : World) (ex : Ex) (T' : PT AV) (H' : AH) : Exit → Act → World → Prop := fun e a w =>
  exOK ex e ∧ ∃ ρ', Lx H H' ρ ρ' ∧ Rel N ρ' H' w ∧ FRg ρ' n (look T') a ∧ Below N w0 w

def LoopWP (P : Program) (c : Code) (Q : Exit → Act → World → Prop) (a : Act) (w : World) : Prop :=
  ∀ (b : Frame) (k : List Item) (cs : List Frame), ∃ e a' w', Q e a' w' ∧ Arrives P (lone (b.at a (.code c :: .inLoop c :: k)) cs w) b k cs e a' w'

theorem wp_of_LoopWP {c : Code} {Q : Exit → Act → World → Prop} {a : Act} {w : World} (h : LoopWP P c Q a w) : (Code.loop c).wp P Q a w :=
  fun b k cs => let ⟨e, a', w', q, r⟩ := h b k cs; ⟨e, a', w', q, .of_steps (.one step_loop) r⟩

theorem LoopWP_step {c : Code} {Q : Exit → Act → World → Prop} {a : Act} {w : World} (h : c.wp P (Exit.then (fun a' w' => LoopWP P c Q a' w') Q) a w) : LoopWP P c Q a w := by
  intro b k cs
  obtain ⟨e, a₁, w₁, hq, harr⟩ := h b (.inLoop c :: k) cs
  cases e with
  | normal =>
    obtain ⟨e₂, a₂, w₂, hq₂, harr₂⟩ := hq b k cs
    exact ⟨e₂, a₂, w₂, hq₂, .of_steps (Steps.trans harr (.one step_inLoop)) harr₂⟩
  | exit id => exact ⟨_, a₁, w₁, hq, .pass (x := .inLoop c) rfl (fun _ _ => .inl (by simp)) harr⟩
  | goto l => exact ⟨_, a₁, w₁, hq, .pass (x := .inLoop c) rfl (fun _ _ => .inl (by simp)) harr⟩
  | ret => exact ⟨_, a₁, w₁, hq, .pass (x := .inLoop c) rfl (fun _ _ => .inl (by simp)) harr⟩
  | panic ch => exact ⟨_, a₁, w₁, hq, .pass (x := .inLoop c) rfl (fun _ _ => .inl (by simp)) harr⟩
  | outgrown => exact ⟨_, a₁, w₁, hq, .pass (x := .inLoop c) rfl (fun _ _ => .inl (by simp)) harr⟩

theorem step_scope {b : Frame} {a : Act} {k : List Item} {cs : List Frame} {w : World} {c : Code} :
    step P (lone (b.at a (.code (.scope c) :: k)) cs w) = .next (lone (b.at a (.code c :: .inScope c :: k)) cs w) :=
  step_lone_go (by simp [stepG, stepG.exec, Frame.at])
theorem step_inScope {b : Frame} {a : Act} {k : List Item} {cs : List Frame} {w : World} {c : Code} :
    step P (lone (b.at a (.inScope c :: k)) cs w) = .next (lone (b.at a k) cs w) :=
  step_lone_go (by simp [stepG, stepG.exec, Frame.at])

theorem wp_scope {c : Code} {Q : Exit → Act → World → Prop} {a : Act} {w : World} (h : c.wp P Q a w) (hQ : ∀ l a w, ¬ Q (.goto l) a w) : (Code.scope c).wp P Q a w := by
  intro b k cs
  obtain ⟨e, a₁, w₁, hq, harr⟩ := h b (.inScope c :: k) cs
  refine ⟨e, a₁, w₁, hq, .of_steps (.one step_scope) ?_⟩
  cases e with
  | normal => exact Steps.trans harr (.one step_inScope)
  | exit id => exact fun k' hk => harr k' (by simpa [exitTo] using hk)
  | goto l => exact absurd hq (hQ _ _ _)
  | ret => exact harr
  | panic ch => exact harr
  | outgrown => exact harr

/-- 'wp', but for a loop from within. -/
def CW (P : Program) (c : Code) (Q : Exit → Act → World → Prop) (a : Act) (w : World) : Prop :=
  match c with
  | .loop c => LoopWP P c Q a w
  | c => c.wp P Q a w

theorem CW.wp {c : Code} {Q : Exit → Act → World → Prop} {a : Act} {w : World} (h : CW P c Q a w) : c.wp P Q a w := by
  cases c <;> first | exact h | exact wp_of_LoopWP h

def RunOK (P : Program) (E : Env) (N : Nat) (run : RunF) : Prop :=
  ∀ (n : Nat) (c : Code) (T T' : PT AV) (H H' : AH) (ex : Ex), run n c T H = some (ex, T', H') → ∀ (ρ : Pl) (a : Act) (w : World), GlobOK E ρ → Rel N ρ H w → FRg ρ n (look T) a →
    CW P c (Post N n ρ H w ex T' H') a w

theorem Post.mono {n : Nat} {ρ ρ1 : Pl} {w0 w1 : World} {ex : Ex} {T' : PT AV} {H H1 H' : AH} (hl : Lx H H1 ρ ρ1) (hb : Below N w0 w1) {e : Exit} {a : Act} {w : World} (h : Post N n ρ1 H1 w1 ex T' H' e a w) :
    Post N n ρ H w0 ex T' H' e a w := by
  obtain ⟨h1, ρ', h2, h3, h4, h5⟩ := h
  exact ⟨h1, ρ', hl.trans h2, h3, h4, hb.trans h5⟩

theorem FRg.toFR {ρ : Pl} {n : Nat} {T : PT AV} {a : Act} (h : FRg ρ n (look T) a) : FR ρ n T a := h.to

theorem body_ok (hE : EnvOK P E) (hmk : ∀ callf, CallOK P E N callf → StepOK P E N (mk callf) eff reads) {callf : CallF} (hcall : CallOK P E N callf)
    {rn : RunF} (hih : RunOK P E N rn) {n : Nat} {c : Code} {T T' : PT AV} {H H' : AH} {ex : Ex}
    (hr : body eff reads mk callf (rn n) n (fun T => ev E T) c T H = some (ex, T', H')) {ρ : Pl} {a : Act} {w : World} (hG : GlobOK E ρ) (hR : Rel N ρ H w) (hF : FRg ρ n (look T) a) :
    CW P c (Post N n ρ H w ex T' H') a w := by
  have here : ∀ e, exOK ex e → T' = T → H' = H → Post N n ρ H w ex T' H' e a w := by
    intro e he h1 h2
    subst h1; subst h2
    exact ⟨he, ρ, Lx.refl _ _, hR, hF, Below.refl _ _⟩
  cases c with
  | skip => simp only [body, Option.some.injEq, Prod.mk.injEq] at hr; obtain ⟨rfl, rfl, rfl⟩ := hr; exact wp_skip (here _ trivial rfl rfl)
  | label l => simp only [body, Option.some.injEq, Prod.mk.injEq] at hr; obtain ⟨rfl, rfl, rfl⟩ := hr; exact wp_label (here _ trivial rfl rfl)
  | exit id => simp only [body, Option.some.injEq, Prod.mk.injEq] at hr; obtain ⟨rfl, rfl, rfl⟩ := hr; exact wp_exit (here _ rfl rfl rfl)
  | ret => simp only [body, Option.some.injEq, Prod.mk.injEq] at hr; obtain ⟨rfl, rfl, rfl⟩ := hr; exact wp_ret (here _ trivial rfl rfl)
  | goto l => simp [body] at hr
  | refuse why => simp [body] at hr
  | rangeFunc f ps x y => simp [body] at hr
  | region id ops draw =>
    cases draw with
    | false =>
      simp only [body] at hr
      split at hr
      · rename_i T1 H1 ho
        simp only [Option.some.injEq, Prod.mk.injEq] at hr
        obtain ⟨rfl, rfl, rfl⟩ := hr
        exact region_wp (hmk callf hcall) ho hG hR hF fun a' ρ' w' h1 h2 h3 h4 => ⟨trivial, ρ', h1, h2, h3, h4⟩
      · cases hr
    | true =>
      simp only [body] at hr
      split at hr
      · rename_i T1 H1 ho
        simp only [Option.some.injEq, Prod.mk.injEq] at hr
        obtain ⟨rfl, rfl, rfl⟩ := hr
        exact draw_wp (hmk callf hcall) ho hG hR hF fun a' ρ' w' h1 h2 h3 h4 => ⟨trivial, ρ', h1, h2, h3, h4⟩
      · cases hr
  | seq x y =>
    simp only [body] at hr
    refine wp_seq ?_
    split at hr
    · rename_i T1 H1 hx
      refine wp_mono (hih n x T T1 H H1 _ hx ρ a w hG hR hF).wp fun e a1 w1 hp => ?_
      obtain ⟨h0, ρ', h1, h2, h3, h4⟩ := hp
      cases e <;> simp only [exOK] at h0
      exact wp_mono (hih n y T1 T' H1 H' ex hr ρ' a1 w1 (hG.mono h1.le) h2 h3).wp fun e a2 w2 hp2 => hp2.mono h1 h4
    · rename_i r hx
      refine wp_mono (hih n x T T' H H' ex hr ρ a w hG hR hF).wp fun e a1 w1 hp => ?_
      obtain ⟨h0, hrest⟩ := hp
      cases e <;> cases ex <;> simp only [exOK] at h0 <;> first | exact absurd hr (hx _ _) | exact ⟨h0, hrest⟩
  | cond b x y =>
    simp only [body] at hr
    split at hr
    · rename_i hb
      have hv := ev_VR hG hF.toFR hb
      simp only [VR] at hv
      exact wp_cond hv (by simpa using (hih n x T T' H H' ex hr ρ a w hG hR hF).wp)
    · rename_i hb
      have hv := ev_VR hG hF.toFR hb
      simp only [VR] at hv
      exact wp_cond hv (by simpa using (hih n y T T' H H' ex hr ρ a w hG hR hF).wp)
    · cases hr
  | block id x =>
    simp only [body] at hr
    refine wp_block ?_
    split at hr
    · rename_i id' T1 H1 hx
      refine wp_mono (hih n x T T1 H H1 _ hx ρ a w hG hR hF).wp fun e a1 w1 hp => ?_
      obtain ⟨h0, hrest⟩ := hp
      cases e <;> simp only [exOK] at h0
      subst h0
      split at hr
      · rename_i he
        rw [Nat.beq_eq] at he
        cases hr
        simp only [Exit.inBlock, he, if_true]
        exact ⟨trivial, hrest⟩
      · rename_i he
        have he' : id' ≠ id := by rw [← Bool.not_eq_true, Nat.beq_eq] at he; exact he
        cases hr
        simp only [Exit.inBlock, he', if_false]
        exact ⟨rfl, hrest⟩
    · rename_i r hx
      refine wp_mono (hih n x T T' H H' ex hr ρ a w hG hR hF).wp fun e a1 w1 hp => ?_
      obtain ⟨h0, hrest⟩ := hp
      cases e <;> cases ex <;> simp only [exOK] at h0 <;> first | exact absurd hr (hx _ _ _) | exact ⟨trivial, hrest⟩
  | loop x =>
    simp only [body] at hr
    show LoopWP P x _ a w
    refine LoopWP_step ?_
    split at hr
    · rename_i T1 H1 hx
      refine wp_mono (hih n x T T1 H H1 _ hx ρ a w hG hR hF).wp fun e a1 w1 hp => ?_
      obtain ⟨h0, ρ', h1, h2, h3, h4⟩ := hp
      cases e <;> simp only [exOK] at h0
      have := hih n (.loop x) T1 T' H1 H' ex hr ρ' a1 w1 (hG.mono h1.le) h2 h3
      exact fun b k cs => let ⟨e, a', w', q, r⟩ := this b k cs; ⟨e, a', w', q.mono h1 h4, r⟩
    · rename_i r hx
      refine wp_mono (hih n x T T' H H' ex hr ρ a w hG hR hF).wp fun e a1 w1 hp => ?_
      obtain ⟨h0, hrest⟩ := hp
      cases e <;> cases ex <;> simp only [exOK] at h0 <;> first | exact absurd hr (hx _ _) | exact ⟨h0, hrest⟩
  | scope x =>
    simp only [body] at hr
    refine wp_scope (hih n x T T' H H' ex hr ρ a w hG hR hF).wp fun l a w hq => ?_
    obtain ⟨h0, _⟩ := hq
    cases ex <;> exact h0

theorem fill0_look : ∀ (vs : List AV) (i : Nat) (T T' : PT AV), fill0 i vs T = some T' → ∀ t, look T' t = if i ≤ t then (match vs[t - i]? with | some v => v | none => look T t) else look T t
  | [], i, T, T', h, t => by cases h; simp
  | v :: vs, i, T, T', h, t => by
    simp only [fill0] at h
    split at h
    · rename_i T1 hs
      have hg := PT.get_set _ _ _ _ _ hs
      have := fill0_look vs (i + 1) T1 T' h t
      rw [this]
      have e : ∀ t, look T1 t = if t = i then v else look T t := by
        intro t
        rw [look_eq, look_eq, hg]
        split <;> rfl
      by_cases h1 : i + 1 ≤ t
      · rw [if_pos h1, if_pos (by omega), show t - i = (t - (i + 1)) + 1 by omega, List.getElem?_cons_succ, e, if_neg (by omega)]
      · rw [if_neg h1, e]
        by_cases h2 : t = i
        · subst h2; simp
        · rw [if_neg h2, if_neg (by omega)]
    · cases h

theorem result_ok (hE : EnvOK P E) {ρ : Pl} {n : Nat} {T : PT AV} {H : AH} {a : Act} {w : World} (hR : Rel N ρ H w) (hF : FRg ρ n (look T) a) {r : ResultVar} {v : AV} (h : aResult E T H r = some v) :
    ∃ u, (match r with
      | .tmp t => Pure.pure (a.tmps.getD t undef)
      | .cell x t => do loadVar t (← asAddr (a.tmps.getD x undef)) : Sem Value).run P w = .ok u w ∧ VR ρ v u := by
  cases r with
  | tmp t =>
    cases h
    exact ⟨_, rfl, hF.tmp t⟩
  | cell x t =>
    simp only [aResult] at h
    obtain ⟨u, h1, h2⟩ := load_ok hE hR (hF.tmp x) h
    refine ⟨u, ?_, h2⟩
    have hp := hF.tmp x
    unfold aLoad at h
    split at h
    case h_2 => cases h
    rename_i b o y hx hy
    rw [hx] at hp
    simp only [VR] at hp
    obtain ⟨L, _, e⟩ := hp
    show (do loadVar t (← asAddr (a.tmps.getD x undef)) : Sem Value).run P w = .ok u w
    rw [e] at h1 ⊢
    simpa [Instr.loadAt, Instr.sureAddr, asAddr] using h1

theorem results_ok (hE : EnvOK P E) {ρ : Pl} {n : Nat} {T : PT AV} {H : AH} {a : Act} {w : World} (hR : Rel N ρ H w) (hF : FRg ρ n (look T) a) : ∀ (rs : List ResultVar) (vs : List AV), aResults E T H rs = some vs →
    ∃ us : List Value, (rs.mapM fun r => (match r with
      | .tmp t => Pure.pure (a.tmps.getD t undef)
      | .cell x t => do loadVar t (← asAddr (a.tmps.getD x undef)) : Sem Value)).run P w = .ok us w ∧ VRs ρ vs us
  | [], vs, h => by
    cases h
    exact ⟨[], rfl, by simp [VRs]⟩
  | r :: rs, vs, h => by
    simp only [aResults] at h
    split at h
    · rename_i v hv
      split at h
      · rename_i vs' hvs
        cases h
        obtain ⟨u, h1, h2⟩ := result_ok hE hR hF hv
        obtain ⟨us, k1, k2⟩ := results_ok hE hR hF rs vs' hvs
        refine ⟨u :: us, ?_, by simp only [VRs]; exact ⟨u, us, rfl, h2, k2⟩⟩
        simp only [List.mapM_cons, Sem.run_bind]
        rw [h1]
        simp only [Result.andThen_ok]
        rw [k1]
        rfl
      · cases h
    · cases h

theorem theResult_ok (hE : EnvOK P E) {ρ : Pl} {n : Nat} {T : PT AV} {H : AH} {a : Act} {w : World} (hR : Rel N ρ H w) (hF : FRg ρ n (look T) a) {fn : Func} {vs : List AV}
    (h : aResults E T H fn.results.toList = some vs) : ∃ u, (results fn a.tmps).run P w = .ok u w ∧ VR ρ (theResult vs) u := by
  obtain ⟨us, h1, h2⟩ := results_ok hE hR hF fn.results.toList vs h
  have hm : (results fn a.tmps).run P w = .ok (if h : us.toArray.size = 1 then us.toArray[0] else .tuple us.toArray) w := by
    unfold results
    simp only [Sem.run_bind]
    have e : ∀ (f : ResultVar → Sem Value), fn.results.mapM f = List.toArray <$> fn.results.toList.mapM f := by
      intro f
      rw [Array.mapM_eq_mapM_toList]
    rw [e]
    simp only [Sem.run_map]
    erw [h1]
    rfl
  refine ⟨_, hm, ?_⟩
  cases vs with
  | nil =>
    simp only [VRs] at h2
    subst h2
    simp [theResult, VR, VRs]
  | cons v vs =>
    simp only [VRs] at h2
    obtain ⟨u, us', rfl, k1, k2⟩ := h2
    cases vs with
    | nil =>
      simp only [VRs] at k2
      subst k2
      simpa [theResult] using k1
    | cons v2 vs =>
      simp only [VRs] at k2
      obtain ⟨u2, us2, rfl, k2, k3⟩ := k2
      have : ¬ (u :: u2 :: us2).toArray.size = 1 := by simp
      rw [dif_neg this]
      simp only [theResult, VR, VRs]
      exact ⟨_, rfl, u, _, rfl, k1, u2, us2, rfl, k2, k3⟩

theorem callBody_ok (hE : EnvOK P E) (hp : PrimOK P E N) {rn : RunF} (hrn : RunOK P E N rn) : CallOK P E N (callBody E rn) := by
  intro f args H v H' h ρ w cargs hG hR hv
  unfold callBody at h
  split at h
  · rename_i p hpr
    exact hp f p hpr args H v H' h ρ w cargs hG hR hv
  · split at h
    case h_2 => cases h
    rename_i fn hfn
    split at h
    case h_2 => cases h
    rename_i c hc
    split at h
    case h_2 => cases h
    rename_i T hT
    have hl := hv.length
    rw [Array.length_toList] at hl
    have key : ∀ ex T' , rn (Nat.max args.length fn.ntmps) c T H = some (ex, T', H') → (ex = .normal ∨ ex = .ret) → ∀ vs, aResults E T' H' fn.results.toList = some vs → v = theResult vs →
        Calls P f cargs w fun e w' => ∃ u ρ', e = .returned u ∧ Lx H H' ρ ρ' ∧ Rel N ρ' H' w' ∧ VR ρ' v u ∧ Below N w w' := by
      intro ex T' hrun hex vs hvs hvv
      refine calls_of_wp (hE.fn f fn hfn) hc ?_
      have hF : FRg ρ (Nat.max args.length fn.ntmps) (look T) { tmps := cargs ++ Array.replicate (fn.ntmps - cargs.size) undef, defers := [] } := by
        refine ⟨?_, rfl, fun t => ?_⟩
        · simp only [Array.size_append, Array.size_replicate, hl]
          show _ = max _ _
          omega
        · have e := fill0_look args 0 .lf T hT t
          simp only [Nat.zero_le, if_true, Nat.sub_zero] at e
          rw [e, Array.getD_eq_getD_getElem?]
          cases ha : args[t]? with
          | some x =>
            obtain ⟨u, h1, h2⟩ := hv.get t x ha
            have hlt : t < cargs.size := by rw [hl]; exact (List.getElem?_eq_some_iff.1 ha).1
            rw [Array.getElem?_append_left hlt]
            rw [Array.getElem?_toList] at h1
            rw [h1]
            exact h2
          | none =>
            have hge : cargs.size ≤ t := by rw [hl]; exact List.getElem?_eq_none_iff.1 ha
            rw [Array.getElem?_append_right hge, Array.getElem?_replicate]
            simp only [look, PT.get]
            split <;> simp [VR, AV.und, VRs, undef]
      refine wp_mono (hrn _ c T T' H H' ex hrun ρ _ w hG hR hF).wp fun e a' w' hpost => ?_
      obtain ⟨h0, ρ', h1, h2, h3, h4⟩ := hpost
      obtain ⟨u, k1, k2⟩ := theResult_ok hE h2 h3 hvs
      rw [← hvv] at k2
      rcases hex with rfl | rfl
      · cases e <;> simp only [exOK] at h0
        exact ⟨h3.defers, u, k1, u, ρ', rfl, h1, h2, k2, h4⟩
      · cases e <;> simp only [exOK] at h0
        exact ⟨h3.defers, u, k1, u, ρ', rfl, h1, h2, k2, h4⟩
    split at h
    · rename_i T' H1 hrun
      split at h
      · rename_i vs hvs
        cases h
        exact key _ _ hrun (.inl rfl) vs hvs rfl
      · cases h
    · rename_i T' H1 hrun
      split at h
      · rename_i vs hvs
        cases h
        exact key _ _ hrun (.inr rfl) vs hvs rfl
      · cases h
    · cases h

theorem run_ok (hE : EnvOK P E) (hp : PrimOK P E N) (hmk : ∀ callf, CallOK P E N callf → StepOK P E N (mk callf) eff reads) : ∀ fuel, RunOK P E N (run E eff reads mk fuel)
  | 0 => fun n c T T' H H' ex h => by simp [run] at h
  | fuel + 1 => fun n c T T' H H' ex h ρ a w hG hR hF =>
    body_ok hE hmk (callBody_ok hE hp (run_ok hE hp hmk fuel)) (run_ok hE hp hmk fuel) h hG hR hF

theorem callN_ok (hE : EnvOK P E) (hp : PrimOK P E N) (hmk : ∀ callf, CallOK P E N callf → StepOK P E N (mk callf) eff reads) (fuel : Nat) : CallOK P E N (callN E eff reads mk fuel) :=
  callBody_ok hE hp (run_ok hE hp hmk fuel)

end
end
end Go.Proofs.YtofpjpeededndaaGreatDoorSim
