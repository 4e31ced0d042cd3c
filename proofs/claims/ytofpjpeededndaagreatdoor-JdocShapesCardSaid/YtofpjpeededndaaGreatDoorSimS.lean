/- THE MACHINE's STEP IS SOUND. -/
import Derived.Test.YtofpjpeededndaaGreatDoorSimV
import Derived.Lib.UnsafeStr
import Derived.Lib.Builder
import Derived.Laws.Externs
set_option linter.unusedVariables false
namespace Go.Proofs.YtofpjpeededndaaGreatDoorSim
noncomputable section
open Go.RowKit (Below)

section
variable {P : Program} {E : Env} {N : Nat} {ρ : Pl} {H H' : AH} {w : World}

theorem Ok.wp {o : Oper} {a : Act} {v : AV} (h : Ok P N ρ H w (execOp a.eval o) v H') {next : Act → World → Prop} {Q : Exit → Act → World → Prop}
    (hn : ∀ u ρ' w', Lx H H' ρ ρ' → Rel N ρ' H' w' → VR ρ' v u → Below N w w' → next (a.put o.dst u) w') : o.wp P a w next Q := by
  obtain ⟨u, ρ', w', hr, h1, h2, h3, h4⟩ := h
  unfold Oper.wp
  rcases hr with hr | ⟨hr, rfl⟩
  · rw [hr]; exact hn u ρ' w' h1 h2 h3 h4
  · rw [hr]; exact hn undef ρ' w' h1 h2 h3 h4

theorem Ok.val (h : Rel N ρ H w) {v : AV} {m : Sem Value} (hv : ∃ u, m.run P w = .ok u w ∧ VR ρ v u) : Ok P N ρ H w (do Pure.pure (Next.value (← m))) v H := by
  obtain ⟨u, h1, h2⟩ := hv
  exact ⟨u, ρ, w, .inl (by simp [h1]), Lx.refl H ρ, h, h2, Below.refl _ _⟩

theorem Ok.eff {v : AV} {m : Sem Value} (hv : ∃ u ρ' w', m.run P w = .ok u w' ∧ Lx H H' ρ ρ' ∧ Rel N ρ' H' w' ∧ VR ρ' v u ∧ Below N w w') : Ok P N ρ H w (do Pure.pure (Next.value (← m))) v H' := by
  obtain ⟨u, ρ', w', h1, h2, h3, h4, h5⟩ := hv
  exact ⟨u, ρ', w', .inl (by simp [h1]), h2, h3, h4, h5⟩

theorem evgs_one {g : Nat → AV} {xs : List Operand} {v : AV} (h : evgs E g xs = some [v]) : ∃ x, xs = [x] ∧ evg E g x = some v := by
  cases xs with
  | nil => cases h
  | cons x xs =>
    simp only [evgs] at h
    split at h
    · rename_i v' hv
      split at h
      · rename_i vs hvs
        cases h
        cases xs with
        | nil => exact ⟨x, rfl, hv⟩
        | cons y ys =>
          simp only [evgs] at hvs
          split at hvs
          · split at hvs <;> cases hvs
          · cases hvs
      · cases h
    · cases h

theorem aLen_ok (hE : EnvOK P E) {t : TypeId} {ts : List TypeId} {x v : AV} {u : Value} {us : List Value} (hx : VR ρ x u) (h : aLen E t x = some v) (ty : TypeId) {argTypes : Array TypeId} {args : Array Value}
    (ht : argTypes[0]? = some t) (ha : args[0]? = some u) : ∃ r, (Builtin.len_ argTypes ty args).run P w = .ok r w ∧ VR ρ v r := by
  unfold aLen at h
  split at h
  case h_2 => cases h
  rename_i ti hti
  unfold Builtin.len_
  simp only [ht, ha, Sem.run_bind, hE.und hti, Result.andThen_ok]
  split at h
  · rename_i s hd
    rw [hd]
    cases h
    simp only [VR] at hx
    obtain ⟨rfl, _⟩ := hx
    exact ⟨_, rfl, by simp only [VR, goInt, bs_size]; rfl⟩
  · rename_i n hd
    rw [hd]
    cases h
    exact ⟨_, rfl, by simp only [VR, goInt]; rfl⟩
  · rename_i hd
    rw [hd]
    cases h
    simp only [VR] at hx
    obtain ⟨L, a, c, _, rfl, _⟩ := hx
    exact ⟨_, rfl, by simp only [VR, goInt]; rfl⟩
  · rename_i hd
    rw [hd]
    cases h
    simp only [VR] at hx
    subst hx
    exact ⟨_, rfl, by simp only [VR, goInt]; rfl⟩
  · cases h

theorem aMax_ok {vs : List AV} {v : AV} {us : Array Value} (hv : VRs ρ vs us.toList) (h : aMax vs = some v) (ty : TypeId) (argTypes : Array TypeId) : ∃ r, (Builtin.max_ argTypes ty us).run P w = .ok r w ∧ VR ρ v r := by
  unfold aMax at h
  split at h
  case h_2 => cases h
  cases h
  simp only [VRs, VR] at hv
  obtain ⟨_, _, e, rfl, _, _, rfl, rfl, rfl⟩ := hv
  unfold Builtin.max_
  rw [e]
  exact ⟨_, rfl, by simp only [VR]⟩

theorem aMin_ok {vs : List AV} {v : AV} {us : Array Value} (hv : VRs ρ vs us.toList) (h : aMin vs = some v) (ty : TypeId) (argTypes : Array TypeId) : ∃ r, (Builtin.min_ argTypes ty us).run P w = .ok r w ∧ VR ρ v r := by
  unfold aMin at h
  split at h
  case h_2 => cases h
  cases h
  simp only [VRs, VR] at hv
  obtain ⟨_, _, e, rfl, _, _, rfl, rfl, rfl⟩ := hv
  unfold Builtin.min_
  rw [e]
  exact ⟨_, rfl, by simp only [VR]⟩

/-- Operations that neither read nor change memory. -/
theorem pureV_ok (hE : EnvOK P E) (hG : GlobOK E ρ) (hR : Rel N ρ H w) {n : Nat} {g : Nat → AV} {a : Act} (hF : FRg ρ n g a) {o : Oper} {v : AV} (h : pureV E g o.op = some v) :
    Ok P N ρ H w (execOp a.eval o) v H := by
  obtain ⟨dst, op, ty, pos, after, guard⟩ := o
  simp only at h
  cases op <;> simp only [pureV] at h <;> try (cases h; done)
  case move x => exact ⟨_, ρ, w, .inl rfl, Lx.refl _ _, hR, evg_VR hG hF h, Below.refl _ _⟩
  case assign x => exact ⟨_, ρ, w, .inl rfl, Lx.refl _ _, hR, evg_VR hG hF h, Below.refl _ _⟩
  case pick c x y =>
    split at h
    · rename_i hc
      have hv := evg_VR hG hF hc
      simp only [VR] at hv
      exact ⟨_, ρ, w, .inl (by simp [execOp, hv, asBool]), Lx.refl _ _, hR, evg_VR hG hF h, Below.refl _ _⟩
    · rename_i hc
      have hv := evg_VR hG hF hc
      simp only [VR] at hv
      exact ⟨_, ρ, w, .inl (by simp [execOp, hv, asBool]), Lx.refl _ _, hR, evg_VR hG hF h, Below.refl _ _⟩
    · cases h
  case build t parts =>
    split at h
    case h_2 => cases h
    rename_i ps hps
    obtain ⟨h1, h2⟩ := aParts_ok hG hF parts.toList ps hps
    have := aBuild_ok (w := w) hE (us := parts.toList.map fun p => (p.1, a.eval p.2)) (by rw [h1]; simp [Function.comp_def]) (by rw [List.map_map]; exact h2) h
    refine Ok.val hR ?_
    have e : (parts.map fun (i, x) => (i, a.eval x)) = (parts.toList.map fun p => (p.1, a.eval p.2)).toArray := by
      apply Array.ext'; simp
    rw [e]; exact this
  case nilCheck x =>
    have key : ∀ {y : AV}, evg E g x = some y → y ≠ .nilp → y ≠ .nilf → y ≠ .nili → v = y → Ok P N ρ H w (execOp a.eval ⟨dst, .nilCheck x, ty, pos, after, guard⟩) v H := by
      intro y hy h1 h2 h3 e
      subst e
      have hv := evg_VR hG hF hy
      refine ⟨a.eval x, ρ, w, .inl ?_, Lx.refl _ _, hR, hv, Below.refl _ _⟩
      simp only [execOp]
      cases v <;> simp only [VR] at hv
      case nilp => exact absurd rfl h1
      case nilf => exact absurd rfl h2
      case nili => exact absurd rfl h3
      case bool => rw [hv]; rfl
      case int => rw [hv]; rfl
      case str => rw [hv.1]; rfl
      case ptr => obtain ⟨_, _, e⟩ := hv; rw [e]; rfl
      case slice => obtain ⟨_, _, _, _, e, _⟩ := hv; rw [e]; rfl
      case nils => rw [hv]; rfl
      case func => rw [hv]; rfl
      case clo => obtain ⟨_, e, _⟩ := hv; rw [e]; rfl
      case iface => obtain ⟨_, e, _⟩ := hv; rw [e]; rfl
      case agg => obtain ⟨_, e, _⟩ := hv; rw [e]; rfl
      case tup => obtain ⟨_, e, _⟩ := hv; rw [e]; rfl
    split at h
    · cases h
    · cases h
    · cases h
    · rename_i h1 h2 h3
      exact key h (fun e => h1 (by rw [← e]; exact h)) (fun e => h2 (by rw [← e]; exact h)) (fun e => h3 (by rw [← e]; exact h)) rfl
  case binOp op xt x y yt =>
    split at h
    case h_2 => cases h
    rename_i p q hp hq
    exact Ok.val hR (aBin_ok hE (evg_VR hG hF hp) (evg_VR hG hF hq) h)
  case unOp op t x =>
    split at h
    case h_2 => cases h
    rename_i p hp
    exact Ok.val hR (aUn_ok (evg_VR hG hF hp) h)
  case convert s d x =>
    split at h
    case h_2 => cases h
    rename_i p hp
    exact Ok.val hR (aConv_ok hE (evg_VR hG hF hp) h)
  case slice t x lo hi mx =>
    split at h
    case h_2 => cases h
    rename_i p l hh m hp hl hhh hm
    exact Ok.val hR (aSlice_ok hE (evg_VR hG hF hp) (evo_VR hG hF hl) (evo_VR hG hF hhh) (evo_VR hG hF hm) h)
  case fieldAddr s x f =>
    split at h
    case h_2 => cases h
    rename_i p hp
    exact Ok.val hR (aFieldAddr_ok hE (evg_VR hG hF hp) h)
  case field s x f =>
    split at h
    case h_2 => cases h
    rename_i p hp
    exact Ok.val hR (aField_ok hE (evg_VR hG hF hp) h)
  case indexAddr t x i =>
    split at h
    case h_2 => cases h
    rename_i p q hp hq
    exact Ok.val hR (aIndexAddr_ok hE (evg_VR hG hF hp) (evg_VR hG hF hq) h)
  case index t x i =>
    split at h
    case h_2 => cases h
    rename_i p q hp hq
    exact Ok.val hR (aIndex_ok hE (evg_VR hG hF hp) (evg_VR hG hF hq) h)
  case extract x i =>
    split at h
    case h_2 => cases h
    rename_i vs hp
    have hv := evg_VR hG hF hp
    simp only [VR] at hv
    obtain ⟨cs, e, hc⟩ := hv
    obtain ⟨u, h1, h2⟩ := hc.get i v h
    rw [Array.getElem?_toList] at h1
    refine Ok.val hR ⟨u, ?_, h2⟩
    rw [e]
    simp only [Instr.extract, h1]
    rfl
  case makeFunc fn first captured =>
    unfold aMkFunc at h
    split at h
    · rename_i f h1 h2
      cases h
      have e1 : first = #[] := Array.toList_eq_nil_iff.1 h1
      have e2 : captured = #[] := Array.toList_eq_nil_iff.1 h2
      subst e1
      subst e2
      exact Ok.val hR ⟨.func (.func f) #[] #[], by simp [Instr.makeFunc], by simp [VR]⟩
    · rename_i f x xs h1 h2
      split at h
      · rename_i vs hvs
        cases h
        have e1 : first = #[] := Array.toList_eq_nil_iff.1 h1
        subst e1
        rw [← h2] at hvs
        have hv := evgs_VR hG hF hvs
        rw [← Array.toList_map] at hv
        exact Ok.val hR ⟨.func (.func f) #[] (captured.map a.eval), by simp [Instr.makeFunc], by simp only [VR]; exact ⟨_, rfl, hv⟩⟩
      · cases h
    · cases h
  case makeInterface t x =>
    split at h
    case h_2 => cases h
    rename_i p ti hp hti
    split at h
    · cases h
    · rename_i hd
      cases h
      refine Ok.val hR ⟨.iface t (a.eval x), ?_, by simp only [VR]; exact ⟨_, rfl, evg_VR hG hF hp⟩⟩
      unfold Instr.makeInterface
      simp only [Sem.run_bind, hE.und hti, Result.andThen_ok]
      cases hdd : ti.desc <;> first | rfl | exact absurd hdd (hd _)
  case call c =>
    obtain ⟨callee, args, ts⟩ := c
    unfold aQuietB at h
    cases callee <;> try (simp only at h; cases h; done)
    rename_i b
    cases b <;> try (simp only at h; cases h; done)
    case len =>
      simp only at h
      split at h
      case h_2 => cases h
      rename_i x xs t ts' hx hts
      have hvs := evgs_VR hG hF hx
      simp only [VRs] at hvs
      obtain ⟨u, us, e, hu, _⟩ := hvs
      have ha : (args.map a.eval)[0]? = some u := by
        rw [← Array.getElem?_toList, Array.toList_map, e]; rfl
      have ht : ts[0]? = some t := by rw [← Array.getElem?_toList, hts]; rfl
      obtain ⟨r, h1, h2⟩ := aLen_ok (w := w) (ts := ts') (us := us) hE hu h ty ht ha
      exact Ok.val hR ⟨r, h1, h2⟩
    case max =>
      simp only at h
      split at h
      case h_2 => cases h
      rename_i vs hx
      have hvs := evgs_VR hG hF hx
      rw [← Array.toList_map] at hvs
      obtain ⟨r, h1, h2⟩ := aMax_ok (P := P) (w := w) hvs h ty ts
      exact Ok.val hR ⟨r, h1, h2⟩
    case min =>
      simp only at h
      split at h
      case h_2 => cases h
      rename_i vs hx
      have hvs := evgs_VR hG hF hx
      rw [← Array.toList_map] at hvs
      obtain ⟨r, h1, h2⟩ := aMin_ok (P := P) (w := w) hvs h ty ts
      exact Ok.val hR ⟨r, h1, h2⟩
    case unsafeSliceData =>
      simp only at h
      split at h
      case h_2 => cases h
      rename_i x hx
      have hvs := evgs_VR hG hF hx
      simp only [VRs] at hvs
      obtain ⟨u, _, e, hu, e2⟩ := hvs
      subst e2
      have ha : args.map a.eval = #[u] := by apply Array.ext'; simpa using e
      refine Ok.val (m := Builtin.unsafeSliceData_ ts ty (args.map a.eval)) hR ?_
      rw [ha]
      unfold aSliceData at h
      split at h
      · cases h
        simp only [VR] at hu
        subst hu
        exact ⟨_, Lib.run_unsafeSliceData_nil w ts ty 0 0, by simp [VR]⟩
      · split at h
        case h_2 => cases h
        rename_i b1 o1 _ _ _ _ hlen
        rw [Nat.blt_eq] at hlen
        cases h
        simp only [VR] at hu
        obtain ⟨L, ad, c, hL, rfl, hle, hrest⟩ := hu
        have hc0 : c ≠ 0 := by omega
        have had : ad = ⟨L.B, L.o + o1, none⟩ := by
          rcases hrest with ⟨_, e⟩ | ⟨_, _, e⟩
          · exact e
          · exact e.resolve_left hc0
        subst had
        exact ⟨_, Lib.run_unsafeSliceData_row w ts ty _ _ c hc0, by simp only [VR]; exact ⟨L, hL, rfl⟩⟩
      · cases h

/-! ### memory -/
theorem aText_ok (hE : EnvOK P E) (hR : Rel N ρ H w) {s d : TypeId} {x v : AV} {u : Value} (hx : VR ρ x u) (h : aText E H s d x = some v) : ∃ r, (convert s d u).run P w = .ok r w ∧ VR ρ v r := by
  unfold aText at h
  split at h
  case h_2 => cases h
  rename_i ts td hs hd
  split at h
  · rename_i e h1 h2
    split at h
    case h_2 => cases h
    rename_i te hte
    split at h
    case h_2 => cases h
    rename_i h3
    cases h
    simp only [VR] at hx
    subst hx
    unfold convert
    simp only [Sem.run_bind, hE.und hs, hE.und hd, Result.andThen_ok, h1, h2, hE.und hte, h3]
    exact ⟨_, rfl, by simp [VR, bs]; rfl⟩
  · rename_i e b o len sz cap h1 h2
    split at h
    case h_2 => cases h
    rename_i te hte hsz
    rw [Nat.beq_eq] at hsz
    subst hsz
    split at h
    case h_2 => cases h
    rename_i vs h3 hold
    split at h
    case h_2 => cases h
    rename_i ns hns
    cases h
    have hx0 := hx
    simp only [VR] at hx
    obtain ⟨L, a, c, hL, rfl, hle, _⟩ := hx
    obtain ⟨k1, k2, us, k3, k4⟩ := old_ok (P := P) hR hx0 hold
    have hload := k4 w rfl
    simp only [Builtin.firstCells, Nat.mul_one] at hload
    unfold convert
    simp only [Sem.run_bind, hE.und hs, hE.und hd, Result.andThen_ok, h1, h2, hE.und hte, h3]
    unfold Conv.bytesToString
    simp only [Sem.run_bind, hload, Result.andThen_ok]
    have loop : ∀ (us : List Value) (vs : List AV) (ns : List Nat) (acc : ByteArray), VRs ρ vs us → bytesOf vs = some ns →
        ((forIn us acc fun (c : Value) (r : ByteArray) => (do
          let .int .u8 n := c | stuck "bytesToString: byte expected"
          Pure.pure (ForInStep.yield (r.push (UInt8.ofNat n.toNat))) : Sem (ForInStep ByteArray))) : Sem ByteArray).run P w = .ok (acc ++ bs ns) w ∧ ∀ x ∈ ns, x < 256 := by
      intro us
      induction us with
      | nil =>
        intro vs ns acc hv hb
        cases vs with
        | nil =>
          cases hb
          have e0 : acc ++ bs [] = acc := by apply ByteArray.ext; simp [bs, ByteArray.data_append]
          exact ⟨by rw [e0]; rfl, fun x hx => by cases hx⟩
        | cons v vs => simp [VRs] at hv
      | cons u us ih =>
        intro vs ns acc hv hb
        cases vs with
        | nil => simp [VRs] at hv
        | cons v vs =>
          simp only [VRs] at hv
          obtain ⟨u', us', e, hv1, hv2⟩ := hv
          obtain ⟨rfl, rfl⟩ := List.cons.inj e
          unfold bytesOf at hb
          split at hb
          · rename_i heq; cases heq
          · rename_i n vs' heq
            obtain ⟨rfl, rfl⟩ := List.cons.inj heq
            split at hb
            case h_2 => cases hb
            rename_i ns' hlt hb'
            cases hb
            have hlt : n < 256 := by simpa [Nat.blt_eq] using hlt
            simp only [VR] at hv1
            subst hv1
            obtain ⟨i1, i2⟩ := ih vs ns' (acc.push (UInt8.ofNat n)) hv2 hb'
            refine ⟨?_, fun x hx => ?_⟩
            · rw [List.forIn_cons]
              simp only [Sem.run_bind, Sem.run_pure, Result.andThen_ok]
              have e2 : (Int.ofNat n).toNat = n := rfl
              rw [e2, i1]
              congr 1
              apply ByteArray.ext
              simp [bs, ByteArray.data_append]
            · cases hx with
              | head => exact hlt
              | tail _ hx => exact i2 x hx
          · cases hb
    obtain ⟨l1, l2⟩ := loop us vs ns ByteArray.empty k3 hns
    refine ⟨.string (bs ns), ?_, by simp only [VR]; exact ⟨trivial, l2⟩⟩
    rw [← Array.forIn_toList]
    erw [l1]
    simp
  · cases h

theorem aBytes_ok (hE : EnvOK P E) (hR : Rel N ρ H w) {s d : TypeId} {x v : AV} {u : Value} (hx : VR ρ x u) (h : aBytes E H s d x = some (v, H')) :
    ∃ r ρ' w', (convert s d u).run P w = .ok r w' ∧ Lx H H' ρ ρ' ∧ Rel N ρ' H' w' ∧ VR ρ' v r ∧ Below N w w' := by
  unfold aBytes at h
  split at h
  case h_2 => cases h
  rename_i ts td hs hd
  split at h
  case h_2 => cases h
  rename_i e l h1 h2
  split at h
  case h_2 => cases h
  rename_i te hte
  split at h
  case h_2 => cases h
  rename_i h3
  simp only [VR] at hx
  obtain ⟨rfl, hl⟩ := hx
  unfold convert
  simp only [Sem.run_bind, hE.und hs, hE.und hd, Result.andThen_ok, h1, h2, hE.und hte, h3]
  unfold Conv.stringToBytes
  simp only [Sem.run_bind, run_choose, Question.forced, Question.cut, Bool.false_eq_true, if_false, Result.andThen_ok, newRow, run_newObj, Sem.run_pure, bs_size]
  generalize hcap : l.length + w.tape w.drawn (.appendCap l.length 0 e) % (2 ^ 63 - l.length) = cap
  have hcl : l.length ≤ cap := by omega
  have harr : (((bs l).data.map fun b => Value.int .u8 b.toNat) ++ Array.replicate (cap - l.length) (Value.int .u8 0)) = ((l.map UInt8.ofNat).map fun b => Value.int .u8 b.toNat).toArray ++ Array.replicate (cap - l.length) (Value.int .u8 0) := by
    congr 1
    apply Array.ext'
    simp [bs]
  rw [harr]
  have hv := u8s_VR (ρ := ρ) hl
  generalize hus : ((l.map UInt8.ofNat).map fun b => Value.int .u8 b.toNat) = us at hv ⊢
  have hul : us.length = l.length := by rw [← hus]; simp
  obtain ⟨ρ', g1, g2, g3, g4⟩ := newSlice_ok (hR.drew (w.drawn + 1)) h (fun c hc => by cases hc) hv (fun v hv => by
    obtain ⟨a, _, rfl⟩ := List.mem_map.1 hv
    rfl) (Array.replicate (cap - l.length) (.int .u8 0)) e (fun e' he' => by cases he'; rfl) (0, 0) (cap := cap) (by simp; omega) (.inl rfl) hcl
  have hmark : (markStringish ⟨w.heap.size, 0, none⟩).run P { { w with drawn := w.drawn + 1 } with heap := w.heap.push (.cells (us.toArray ++ Array.replicate (cap - l.length) (Value.int .u8 0)) e) } =
      .ok () (World.markEnd { { w with drawn := w.drawn + 1 } with heap := w.heap.push (.cells (us.toArray ++ Array.replicate (cap - l.length) (Value.int .u8 0)) e) } w.heap.size cap) := by
    unfold markStringish
    simp only [Sem.run_bind, run_shape, World.shape?, Array.getElem?_push_size, Result.andThen_ok, run_freeze]
    have : (us.toArray ++ Array.replicate (cap - l.length) (Value.int .u8 0)).size = cap := by simp; omega
    rw [this]
    rfl
  rw [hmark]
  refine ⟨_, ρ', _, rfl, g1, g2.markEnd ?_, g3, markEnd_below ⟨g4.os, g4.tape, g4.output, g4.size, g4.block⟩ hR.base⟩
  intro c e' f hc
  simp only [Array.getElem?_push_size, Option.some.injEq, Obj.cells.injEq] at hc
  obtain ⟨rfl, _, _⟩ := hc
  simp
  omega

theorem aSame_ok (hE : EnvOK P E) (hR : Rel N ρ H w) {s d : TypeId} {x v : AV} {u : Value} (hx : VR ρ x u) (h : aSame E H s d x = some v) :
    ∃ r ρ' w', (convert s d u).run P w = .ok r w' ∧ Lx H H ρ ρ' ∧ Rel N ρ' H w' ∧ VR ρ' v r ∧ Below N w w' := by
  unfold aSame at h
  split at h
  case h_2 => cases h
  rename_i ts b o len sz cap hsd hs
  rw [Nat.beq_eq] at hsd
  subst hsd
  split at h
  case h_2 => cases h
  rename_i e hd
  split at h
  case h_2 => cases h
  rename_i te ab hte hab
  split at h
  case h_2 => cases h
  rename_i h3 hcond
  simp only [Bool.and_eq_true, Bool.or_eq_true, Nat.blt_eq] at hcond
  obtain ⟨hown, hpos⟩ := hcond
  cases h
  obtain ⟨len', rfl⟩ : ∃ k, len = k + 1 := ⟨len - 1, by omega⟩
  have hx0 := hx
  obtain ⟨L, c, hL, rfl, _, _⟩ := slice_addr hx
  have k := hR.blk b ab L hab hL
  obtain ⟨hN, hNF⟩ := k.own hown
  obtain ⟨o', ho'⟩ : ∃ o', w.heap[L.B]? = some o' := ⟨_, Array.getElem?_eq_getElem k.here⟩
  unfold convert
  simp only [Sem.run_bind, hE.und hs, Result.andThen_ok, hd, beq_self_eq_true, hE.und hte, h3]
  cases o' with
  | cells cs te' fr =>
    refine ⟨.slice (some ⟨L.B, L.o + o, none⟩) (len' + 1) c, ρ, World.markEnd w L.B cs.size, ?_, Lx.refl _ _, hR.markEnd ?_, hx0, markEnd_below (Below.refl _ _) hN⟩
    · unfold markStringish
      simp only [Sem.run_bind, run_shape, World.shape?, ho', Result.andThen_ok, run_freeze, Sem.run_pure]
      rfl
    · intro c2 e2 f2 h2
      rw [ho'] at h2
      simp only [Option.some.injEq, Obj.cells.injEq] at h2
      rw [h2.1]
  | _ =>
    refine ⟨.slice (some ⟨L.B, L.o + o, none⟩) (len' + 1) c, ρ, w, ?_, Lx.refl _ _, hR, hx0, Below.refl _ _⟩
    unfold markStringish
    simp [World.shape?, ho']

theorem zeros_arr {z : List AV} {uz : List Value} (h : VRs ρ z uz) : ∀ (n : Nat), VRs ρ (zeros z n) ((List.replicate n uz).flatten)
  | 0 => by simp [zeros, VRs]
  | n + 1 => by
    simp only [zeros, List.replicate_succ, List.flatten_cons]
    exact h.append (zeros_arr h n)

theorem mod_arr (z : Array Value) (hz : 0 < z.size) (n : Nat) : ((Array.range (n * z.size)).map fun i => z[i % z.size]!).toList = (List.replicate n z.toList).flatten := by
  induction n with
  | zero => simp
  | succ n ih =>
    apply List.ext_getElem?
    intro i
    simp only [Array.toList_map, Array.toList_range, List.getElem?_map] at ih ⊢
    rw [List.replicate_succ, List.flatten_cons]
    have hN : (n + 1) * z.size = z.size + n * z.size := by rw [Nat.add_mul, Nat.one_mul, Nat.add_comm]
    by_cases hi : i < z.size
    · rw [List.getElem?_append_left (by simpa using hi), List.getElem?_range (by omega)]
      simp [Nat.mod_eq_of_lt hi, hi]
    · rw [List.getElem?_append_right (by simpa using hi)]
      simp only [Array.length_toList]
      rw [← ih]
      simp only [List.getElem?_map]
      by_cases h2 : i < (n + 1) * z.size
      · rw [List.getElem?_range h2, List.getElem?_range (by omega)]
        simp only [Option.map_some]
        congr 2
        rw [Nat.mod_eq_sub_mod (by omega)]
      · rw [List.getElem?_eq_none (by simp; omega), List.getElem?_eq_none (by simp; omega)]

theorem aNew_slice (hR : Rel N ρ H w) {vs : List AV} {us : Array Value} (hv : VRs ρ vs us.toList) {b : Nat} (e : TypeId) (hn : aNew H e vs = some (b, H')) (n m sz : Nat) (hm : n ≤ m) :
    ∃ ρ', Lx H H' ρ ρ' ∧ Rel N ρ' H' { w with heap := w.heap.push (.cells us e) } ∧ VR ρ' (.slice b 0 n sz (some m)) (.slice (some ⟨w.heap.size, 0, none⟩) n m) ∧ Below N w { w with heap := w.heap.push (.cells us e) } := by
  obtain ⟨ρ', h1, h2, h3, h4⟩ := new_ok hR hv e hn
  exact ⟨ρ', h1, h3, by simp only [VR]; exact ⟨_, _, m, h2, rfl, hm, .inl ⟨rfl, rfl⟩⟩, h4⟩

theorem aNew_ptr (hR : Rel N ρ H w) {vs : List AV} {us : Array Value} (hv : VRs ρ vs us.toList) {b : Nat} (e : TypeId) (hn : aNew H e vs = some (b, H')) :
    ∃ ρ', Lx H H' ρ ρ' ∧ Rel N ρ' H' { w with heap := w.heap.push (.cells us e) } ∧ VR ρ' (.ptr b 0) (.pointer (some ⟨w.heap.size, 0, none⟩)) ∧ Below N w { w with heap := w.heap.push (.cells us e) } := by
  obtain ⟨ρ', h1, h2, h3, h4⟩ := new_ok hR hv e hn
  exact ⟨ρ', h1, h3, by simp only [VR]; exact ⟨_, h2, rfl⟩, h4⟩

theorem aAlloc_ok (hE : EnvOK P E) (hR : Rel N ρ H w) {t : TypeId} {v : AV} (h : aAlloc E H t = some (v, H')) :
    ∃ r ρ' w', (Instr.alloc t true (.tuple #[])).run P w = .ok r w' ∧ Lx H H' ρ ρ' ∧ Rel N ρ' H' w' ∧ VR ρ' v r ∧ Below N w w' := by
  unfold aAlloc at h
  split at h
  case h_2 => cases h
  rename_i ti hti
  split at h
  case h_2 => cases h
  rename_i z hz
  split at h
  case h_2 => cases h
  rename_i b H1 hn
  cases h
  obtain ⟨uz, k1, k2, _⟩ := zero_cells (P := P) (w := w) (ρ := ρ) hE hti hz
  obtain ⟨ρ', h1, h2, h3, h4⟩ := aNew_ptr hR k2 t hn
  exact ⟨_, ρ', _, by simp [Instr.alloc, k1, newVar, newRow], h1, h2, h3, h4⟩

theorem aBox_ok (hR : Rel N ρ H w) {t : TypeId} {x v : AV} {u : Value} (hx : VR ρ x u) (h : aBox H t x = some (v, H')) :
    ∃ r ρ' w', (Instr.box t u).run P w = .ok r w' ∧ Lx H H' ρ ρ' ∧ Rel N ρ' H' w' ∧ VR ρ' v r ∧ Below N w w' := by
  unfold aBox at h
  split at h
  case h_2 => cases h
  rename_i b H1 hn
  cases h
  obtain ⟨ρ', h1, h2, h3, h4⟩ := aNew_ptr hR hx.cells t hn
  exact ⟨_, ρ', _, by simp [Instr.box, newVar, newRow], h1, h2, h3, h4⟩

theorem aBuildSlice_ok (hE : EnvOK P E) (hR : Rel N ρ H w) {t : TypeId} {len : Nat} {ps : List (Nat × AV)} {us : List (Nat × Value)} {v : AV} (h1 : ps.map (·.1) = us.map (·.1)) (h2 : VRs ρ (ps.map (·.2)) (us.map (·.2)))
    (h : aBuildSlice E H t len ps = some (v, H')) :
    ∃ r ρ' w', (Instr.buildSlice t len us.toArray).run P w = .ok r w' ∧ Lx H H' ρ ρ' ∧ Rel N ρ' H' w' ∧ VR ρ' v r ∧ Below N w w' := by
  unfold aBuildSlice at h
  split at h
  case h_2 => cases h
  rename_i ti hti
  split at h
  case h_2 => cases h
  rename_i elem hd
  split at h
  case h_2 => cases h
  rename_i te hte
  split at h
  case h_2 => cases h
  rename_i z hz
  split at h
  case h_2 => cases h
  rename_i hcond
  simp only [Bool.and_eq_true, Nat.ble_eq, Nat.blt_eq, Nat.beq_eq] at hcond
  obtain ⟨⟨hc1, hc2⟩, hc3⟩ := hcond
  split at h
  case h_2 => cases h
  rename_i cs hcs
  split at h
  case h_2 => cases h
  rename_i b H1 hn
  cases h
  obtain ⟨uz, k1, k2, _⟩ := zero_cells (P := P) (w := w) (ρ := ρ) hE hte hz
  have hzl := k2.length
  rw [Array.length_toList, hc3] at hzl
  unfold Instr.buildSlice
  simp only [Sem.run_bind, hE.und hti, hd, Result.andThen_ok, hE.size hte]
  rw [if_neg (by omega)]
  cases hl : len with
  | zero =>
    subst hl
    simp only [Nat.zero_mul, if_true, Sem.run_pure, Result.andThen_ok]
    simp only [zeros] at hcs
    obtain ⟨ur, f1, f2⟩ := aFill_ok ps us [] #[] cs h1 h2 (by simp [VRs]) hcs
    have e0 : (Array.map (fun (x : Nat) => (#[] : Array Value)[x % (#[] : Array Value).size]!) (Array.range 0)) = #[] := by simp
    simp only [Sem.run_bind, Sem.run_pure, Result.andThen_ok]
    rw [e0, f1]
    obtain ⟨ρ', g1, g2, g3, g4⟩ := aNew_slice hR f2 elem hn 0 0 te.size (Nat.le_refl _)
    exact ⟨_, ρ', _, rfl, g1, g2, g3, g4⟩
  | succ len' =>
    rw [← hl]
    have hpos : len * te.size ≠ 0 := by
      rw [hl]
      have : 0 < (len' + 1) * te.size := Nat.mul_pos (by omega) hc2
      omega
    rw [if_neg hpos]
    simp only [Sem.run_bind, k1, Result.andThen_ok, Sem.run_pure]
    have hza : VRs ρ (zeros z.cells len) ((Array.range (len * te.size)).map fun x => uz.cells[x % uz.cells.size]!).toList := by
      rw [← hzl, mod_arr uz.cells (by omega)]
      exact zeros_arr k2 len
    obtain ⟨ur, f1, f2⟩ := aFill_ok ps us _ _ cs h1 h2 hza hcs
    rw [f1]
    obtain ⟨ρ', g1, g2, g3, g4⟩ := aNew_slice hR f2 elem hn len len te.size (Nat.le_refl _)
    exact ⟨_, ρ', _, rfl, g1, g2, g3, g4⟩

theorem aMake_ok (hE : EnvOK P E) (hR : Rel N ρ H w) {t : TypeId} {l c v : AV} {ul uc : Value} (hl : VR ρ l ul) (hc : VR ρ c uc) (h : aMake E H t l c = some (v, H')) :
    ∃ r ρ' w', (Instr.makeSlice t ul uc).run P w = .ok r w' ∧ Lx H H' ρ ρ' ∧ Rel N ρ' H' w' ∧ VR ρ' v r ∧ Below N w w' := by
  unfold aMake at h
  split at h
  case h_2 => cases h
  rename_i ti k1 n k2 m hti
  split at h
  case h_2 => cases h
  rename_i elem hd
  split at h
  case h_2 => cases h
  rename_i te hte
  split at h
  case h_2 => cases h
  rename_i z hz
  split at h
  case h_2 => cases h
  rename_i hcond
  simp only [Bool.and_eq_true, Nat.ble_eq, Nat.blt_eq, Nat.beq_eq] at hcond
  obtain ⟨⟨⟨⟨hnm, hbm⟩, hm⟩, hpos⟩, hzl⟩ := hcond
  split at h
  case h_2 => cases h
  rename_i b H1 hn
  cases h
  simp only [VR] at hl hc
  subst hl
  subst hc
  obtain ⟨uz, z1, z2, _⟩ := zero_cells (P := P) (w := w) (ρ := ρ) hE hte hz
  have hzs := z2.length
  rw [Array.length_toList, hzl] at hzs
  obtain ⟨i, hi, hib⟩ : ∃ i, P.info? elem = some i ∧ i.bytes = te.bytes := by
    obtain ⟨_, i, j1, _, j3, _⟩ := hE.ti elem te hte
    exact ⟨i, j1, j3⟩
  have hti' : ∀ w' : World, (typeInfo elem).run P w' = .ok i w' := by intro w'; simp [typeInfo, hi]
  have wr : ∀ q : Nat, q ≤ 281474976710656 → IntKind.i64.wrap (Int.ofNat q) = (q : Int) := by
    intro q hq
    have hb : (Int.ofNat q : Int) % (2 ^ IntKind.i64.bits : Int) = (q : Int) := by
      show ((q : Int) % 2 ^ 64) = q
      omega
    have h2 : (IntKind.i64.signed && decide ((q : Int) ≥ (2 ^ (IntKind.i64.bits - 1) : Int))) = false := by
      show decide ((q : Int) ≥ 2 ^ 63) = false
      rw [decide_eq_false_iff_not]
      omega
    unfold IntKind.wrap
    simp only [hb, h2, Bool.false_eq_true, if_false]
  have w1 := wr n (by omega)
  have w2 := wr m hm
  have hbm' : ((te.bytes : Nat) : Int) * (m : Int) ≤ 2 ^ 48 := by
    have : ((te.bytes * m : Nat) : Int) ≤ ((281474976710656 : Nat) : Int) := Int.ofNat_le.2 hbm
    simpa using this
  unfold Instr.makeSlice
  simp only [Sem.run_bind, hE.und hti, hd, Result.andThen_ok, asInt, asIntOf, Sem.run_pure, hti', hib, w1, w2]
  have c1 : ((decide ((m : Int) < 0) || decide (((te.bytes : Nat) : Int) * (m : Int) > 2 ^ 48)) || decide ((n : Int) < 0) || decide ((n : Int) > (m : Int))) = false := by
    simp only [Bool.or_eq_false_iff, decide_eq_false_iff_not]
    refine ⟨⟨⟨by omega, by omega⟩, by omega⟩, by omega⟩
  rw [if_neg (by rw [c1]; simp)]
  simp only [Sem.run_bind, run_askRoom, Result.andThen_ok, hE.size hte, Int.toNat_natCast]
  have hza : VRs ρ (zeros z.cells m) ((Array.range (m * te.size)).map fun x => uz.cells[x % uz.cells.size]!).toList := by
    rw [← hzs, mod_arr uz.cells (by omega)]
    exact zeros_arr z2 m
  cases hm0 : m with
  | zero =>
    subst hm0
    simp only [Nat.zero_mul, if_true, Sem.run_pure, Result.andThen_ok, newRow, Sem.run_bind, run_newObj]
    have e0 : (Array.map (fun (x : Nat) => (#[] : Array Value)[x % (#[] : Array Value).size]!) (Array.range 0)) = #[] := by simp
    rw [e0]
    obtain ⟨ρ', g1, g2, g3, g4⟩ := aNew_slice hR (us := #[]) (by simpa [zeros] using hza) elem hn n 0 te.size hnm
    exact ⟨_, ρ', _, rfl, g1, g2, g3, g4⟩
  | succ m' =>
    rw [← hm0]
    have hne : m * te.size ≠ 0 := by
      have : 0 < m * te.size := Nat.mul_pos (by omega) hpos
      omega
    rw [if_neg hne]
    simp only [Sem.run_bind, z1, Result.andThen_ok, Sem.run_pure, newRow, run_newObj]
    obtain ⟨ρ', g1, g2, g3, g4⟩ := aNew_slice hR hza elem hn n m te.size hnm
    exact ⟨_, ρ', _, rfl, g1, g2, g3, g4⟩

theorem sameLayout_refl (e : TypeId) : sameLayout P P.depth e e = true := by
  have hd : P.depth = (2 * (P.types.size + Made.depth) + 1) + 1 := rfl
  rw [hd]; simp [sameLayout]

theorem liesAt_self {e : TypeId} {sz cells : Nat} (hc : P.cellsOf e = sz) (h0 : 0 < sz) (hn : sz ≤ cells) : liesAt P P.depth e (cells / P.cellsOf e) 0 e 1 = true := by
  have h1 : 0 + 1 ≤ cells / P.cellsOf e := by rw [hc]; exact (Nat.le_div_iff_mul_le h0).2 (by omega)
  have hd : P.depth = (2 * (P.types.size + Made.depth) + 1) + 1 := rfl
  have hs := sameLayout_refl (P := P) e
  generalize cells / P.cellsOf e = n at h1
  rw [hd] at hs ⊢
  simp only [liesAt, Bool.or_eq_true]
  left
  rw [hd]
  simp only [rowAt]
  simp [hc, hs, h1]
  omega

theorem bytesOf_VR : ∀ {vs : List AV} {ns : List Nat}, bytesOf vs = some ns → vs = u8s ns ∧ ∀ x ∈ ns, x < 256
  | [], ns, h => by cases h; exact ⟨rfl, fun x hx => by cases hx⟩
  | v :: vs, ns, h => by
    unfold bytesOf at h
    split at h
    · rename_i e; cases e
    · rename_i n vs' e
      cases e
      split at h
      · rename_i ms h1 h2
        cases h
        obtain ⟨k1, k2⟩ := bytesOf_VR h2
        rw [Nat.blt_eq] at h1
        refine ⟨by rw [k1]; rfl, fun x hx => ?_⟩
        cases hx with
        | head => exact h1
        | tail _ hx => exact k2 x hx
      · cases h
    · cases h

theorem info_size (hE : EnvOK P E) {t : TypeId} {x : TI} (h : E.ti t = some x) : ∃ i, P.info? t = some i ∧ i.size = x.size ∧ P.cellsOf t = x.size := by
  obtain ⟨_, i, k1, k2, _⟩ := hE.ti t x h
  exact ⟨i, k1, k2, by simp [Program.cellsOf, k1, k2]⟩

theorem aUnsafe_ok (hE : EnvOK P E) (hR : Rel N ρ H w) {s d : TypeId} {x v : AV} {u : Value} (hx : VR ρ x u) (h : aUnsafe E H s d x = some v) : ∃ r, (convert s d u).run P w = .ok r w ∧ VR ρ v r := by
  unfold aUnsafe at h
  split at h
  case h_2 => cases h
  rename_i ts td hs hd
  split at h
  · rename_i t k o h1 h2
    split at h
    case h_2 => cases h
    rename_i te ab hte hab
    split at h
    case h_2 => cases h
    rename_i hc
    simp only [Bool.and_eq_true, Nat.blt_eq] at hc
    cases h
    have hx0 := hx
    simp only [VR] at hx
    obtain ⟨L, hL, rfl⟩ := hx
    obtain ⟨i, j1, j2, _⟩ := info_size hE hte
    have kb := hR.blk _ _ _ hab hL
    have hlen := kb.len
    obtain ⟨uu, hcell⟩ := kb.room o (by omega)
    refine ⟨_, ?_, hx0⟩
    simp only [World.cell?] at hcell
    cases hh : w.heap[L.B]? with
    | none => rw [hh] at hcell; cases hcell
    | some ob =>
      rw [hh] at hcell
      cases ob <;> simp at hcell
      rename_i c e f
      have hsh : w.shape? L.B = some (e, c.size) := by simp [World.shape?, hh]
      exact Lib.run_to_unsafe w ⟨L.B, L.o + o, none⟩ (h1 ▸ (hE.ti _ _ hs).1) (h2 ▸ (hE.ti _ _ hd).1) j1 (by omega) hsh (by
        have := (Array.getElem?_eq_some_iff.1 hcell).1
        exact this)
  · rename_i t k h1 h2
    split at h
    case h_2 => cases h
    rename_i te ab hte hab
    split at h
    case h_2 => cases h
    rename_i e hc hty
    simp only [Bool.and_eq_true, Nat.blt_eq, Nat.ble_eq] at hc
    split at h
    case h_2 => cases h
    rename_i he
    rw [Nat.beq_eq] at he
    subst he
    cases h
    have hx0 := hx
    simp only [VR] at hx
    obtain ⟨L, hL, rfl⟩ := hx
    obtain ⟨i, j1, j2, j3⟩ := info_size hE hte
    have kb := hR.blk _ _ _ hab hL
    obtain ⟨h0, c, f, q1, q2⟩ := kb.ty _ hty
    have hlen := kb.len
    refine ⟨_, ?_, hx0⟩
    have hsh : w.shape? L.B = some (e, c.size) := by unfold World.shape?; rw [q1]
    exact Lib.run_from_unsafe w ⟨L.B, L.o + 0, none⟩ (h1 ▸ (hE.ti _ _ hs).1) (h2 ▸ (hE.ti _ _ hd).1) j1 hsh (by
      rw [h0]
      exact liesAt_self j3 hc.1 (by omega))
  · cases h

theorem aUString_ok (hE : EnvOK P E) (hR : Rel N ρ H w) {ts : Array TypeId} {p n v : AV} {up un : Value} (hp : VR ρ p up) (hn : VR ρ n un) (h : aUString E H ts.toList p n = some (v, H')) (ty : TypeId) :
    ∃ u ρ' w', (Builtin.unsafeString_ ts ty #[up, un]).run P w = .ok u w' ∧ Lx H H' ρ ρ' ∧ Rel N ρ' H' w' ∧ VR ρ' v u ∧ Below N w w' := by
  unfold aUString at h
  split at h
  case h_2 => cases h
  rename_i t t2 m hts
  have hts : ts = #[t, t2] := by apply Array.ext'; simpa using hts
  subst hts
  simp only [VR] at hn
  subst hn
  split at h
  · cases h
    simp only [VR] at hp
    subst hp
    exact ⟨_, ρ, w, Lib.run_unsafeString_none w t t2 ty none, Lx.refl _ _, hR, by simp [VR, bs]; rfl, Below.refl _ _⟩
  · cases h
    simp only [VR] at hp
    obtain ⟨L, hL, rfl⟩ := hp
    exact ⟨_, ρ, w, Lib.run_unsafeString_none w t t2 ty _, Lx.refl _ _, hR, by simp [VR, bs]; rfl, Below.refl _ _⟩
  · rename_i b hm
    split at h
    case h_2 => cases h
    rename_i ti ab hti hab
    split at h
    case h_2 => cases h
    rename_i e e' hd hty
    split at h
    case h_2 => cases h
    rename_i te ns hte hns
    split at h
    case h_2 => cases h
    rename_i hc
    simp only [Bool.and_eq_true, Bool.or_eq_true, Nat.beq_eq, Nat.ble_eq] at hc
    obtain ⟨⟨⟨⟨he, hsz⟩, hle⟩, hmax⟩, ho⟩ := hc
    subst he
    split at h
    case h_2 => cases h
    rename_i H1 hput
    cases h
    simp only [VR] at hp
    obtain ⟨L, hL, rfl⟩ := hp
    have kb := hR.blk _ _ _ hab hL
    obtain ⟨h0, c, f, q1, q2⟩ := kb.ty _ hty
    have hlen := kb.len
    obtain ⟨j1, j2, j3, j4⟩ := info_size hE hte
    obtain ⟨b1, b2⟩ := bytesOf_VR hns
    have hnl : ns.length = m := by
      have := congrArg List.length b1
      simp only [List.length_take, u8s, List.length_map] at this
      omega
    have hm0 : m ≠ 0 := fun e => hm e
    have hN := (kb.own ho).1
    have hsh : w.shape? L.B = some (e, c.size) := by unfold World.shape?; rw [q1]
    have hcell : ∀ j x, (ns.map UInt8.ofNat)[j]? = some x → w.cell? ((⟨L.B, 0, none⟩ : Addr).add j) = some (.int .u8 x.toNat) := by
      intro j x hj
      rw [List.getElem?_map] at hj
      cases hnj : ns[j]? with
      | none => rw [hnj] at hj; cases hj
      | some y =>
        rw [hnj] at hj
        simp only [Option.map_some, Option.some.injEq] at hj
        subst hj
        have hlt := (List.getElem?_eq_some_iff.1 hnj).1
        have hy := b2 y (List.mem_of_getElem? hnj)
        have hcj : ab.cells[j]? = some (.int .u8 (Int.ofNat y)) := by
          have : (ab.cells.take m)[j]? = some (.int .u8 (Int.ofNat y)) := by rw [b1]; simp [u8s, hnj]
          rw [List.getElem?_take] at this
          split at this
          · exact this
          · cases this
        obtain ⟨u, k1, k2⟩ := kb.cell j _ hcj
        simp only [VR] at k2
        subst k2
        rw [h0] at k1
        rw [add_eq]
        rw [k1]
        rw [UInt8.toNat_ofNat', Nat.mod_eq_of_lt hy]
        rfl
    have hrun := Lib.run_unsafeString_row (P := P) w t t2 ty e (hd ▸ (hE.ti _ _ hti).1) (by rw [j4, hsz]) L.B c.size hsh (ns.map UInt8.ofNat) (by
      intro e
      have := congrArg List.length e
      simp only [List.length_map, List.length_nil] at this
      omega) (by rw [List.length_map]; omega) (by rw [List.length_map]; omega) hcell
    rw [List.length_map, hnl] at hrun
    refine ⟨.string (bs ns), ρ, w.freeze ⟨L.B, 0, none⟩ m, ?_, Lx.same (put_get hput).1, hR.freeze hab hL ho hput 0 m, ?_, Lib.below_freeze (Below.refl _ _) hN m⟩
    · rw [h0]; exact hrun
    · simp only [VR]
      exact ⟨trivial, b2⟩
  · cases h

/-! ### the step -/
theorem mk_quiet {callf : CallF} {g : Nat → AV} {o : Oper} {v : AV} (he : effO E o = false) (h : mk E callf g H o = some (v, H')) : H' = H := by
  obtain ⟨dst, op, ty, pos, after, guard⟩ := o
  cases op <;> simp only [mk] at h <;> simp only [effO] at he
  case load => (repeat' split at h) <;> cases h; rfl
  case store => cases he
  case alloc => cases he
  case box => cases he
  case buildSlice => cases he
  case makeSlice => cases he
  case convert s d x =>
    split at h
    case h_2 => cases h
    split at h
    · rename_i h1 h2; rw [h1, h2] at he; cases he
    · split at h <;> cases h; rfl
    · split at h <;> cases h; rfl
    · split at h <;> split at h <;> cases h <;> rfl
  case call c =>
    split at h
    · rename_i hc; rw [hc] at he; cases he
    · rename_i hc; rw [hc] at he; cases he
    · rename_i hc; rw [hc] at he; cases he
    · split at h <;> cases h; rfl
  all_goals (split at h <;> cases h; rfl)

theorem mk_pure {callf : CallF} {g : Nat → AV} {H2 : AH} {o : Oper} {v : AV} (he : effO E o = false) (hr : readsO E o = false) (h : mk E callf g H o = some (v, H')) : mk E callf g H2 o = some (v, H2) := by
  obtain ⟨dst, op, ty, pos, after, guard⟩ := o
  cases op <;> simp only [mk] at h ⊢ <;> simp only [effO] at he <;> simp only [readsO] at hr
  case load => cases hr
  case store => cases he
  case alloc => cases he
  case box => cases he
  case buildSlice => cases he
  case makeSlice => cases he
  case convert s d x =>
    simp only [Bool.or_eq_false_iff] at hr
    obtain ⟨hr, hu1, hu2⟩ := hr
    rw [hr, Bool.not_false, Bool.and_true] at he
    split at h
    case h_2 => cases h
    rw [he, hr] at h ⊢
    simp only [hu1, hu2, Bool.or_false] at h ⊢
    split at h
    · rename_i hv; cases h; rfl
    · cases h
  case call c =>
    split at h
    · rename_i hc; rw [hc] at he; cases he
    · rename_i hc; rw [hc] at he; cases he
    · rename_i hc; rw [hc] at he; cases he
    · split at h
      · cases h; rfl
      · cases h
  all_goals
    split at h
    · cases h; rfl
    · cases h

theorem aParts_congr {g g' : Nat → AV} : ∀ {ps : List (Nat × Operand)}, (∀ t, .tmp t ∈ ps.map (·.2) → g' t = g t) → aParts E g' ps = aParts E g ps
  | [], _ => rfl
  | (i, x) :: ps, h => by
    simp only [aParts]
    rw [evg_congr (fun t e => h t (by simp [e])), aParts_congr (fun t e => h t (by simp only [List.map_cons, List.mem_cons]; exact .inr e))]

theorem evo_congr {g g' : Nat → AV} {x : Option Operand} (h : ∀ t, .tmp t ∈ x.toList → g' t = g t) : evo E g' x = evo E g x := by
  cases x with
  | none => rfl
  | some x => simp only [evo]; rw [evg_congr (fun t e => h t (by simp [e]))]

theorem aQuietB_congr {g g' : Nat → AV} {c : Call} (h : ∀ t, .tmp t ∈ c.args.toList → g' t = g t) : aQuietB E g' c = aQuietB E g c := by
  unfold aQuietB
  rw [evgs_congr h]

theorem pureV_congr {g g' : Nat → AV} {op : Op} (h : ∀ t, .tmp t ∈ op.operands.toList → g' t = g t) : pureV E g' op = pureV E g op := by
  cases op <;> simp only [pureV] <;> simp only [Op.operands] at h
  case move x => exact evg_congr fun t e => h t (by simp [e])
  case assign x => exact evg_congr fun t e => h t (by simp [e])
  case pick c a b => rw [evg_congr (x := c) fun t e => h t (by simp [e]), evg_congr (x := a) fun t e => h t (by simp [e]), evg_congr (x := b) fun t e => h t (by simp [e])]
  case build t ps => rw [aParts_congr fun t e => h t (by simpa using e)]
  case nilCheck x => rw [evg_congr fun t e => h t (by simp [e])]
  case binOp op xt x y yt => rw [evg_congr (x := x) fun t e => h t (by simp [e]), evg_congr (x := y) fun t e => h t (by simp [e])]
  case unOp op xt x => rw [evg_congr fun t e => h t (by simp [e])]
  case convert s d x => rw [evg_congr fun t e => h t (by simp [e])]
  case slice t x lo hi mx =>
    rw [evg_congr (x := x) fun t e => h t (by simp [e]), evo_congr (x := lo) fun t e => h t (by cases lo <;> simp_all), evo_congr (x := hi) fun t e => h t (by cases hi <;> simp_all), evo_congr (x := mx) fun t e => h t (by cases mx <;> simp_all)]
  case fieldAddr s x f => rw [evg_congr fun t e => h t (by simp [e])]
  case field s x f => rw [evg_congr fun t e => h t (by simp [e])]
  case indexAddr t x i => rw [evg_congr (x := x) fun t e => h t (by simp [e]), evg_congr (x := i) fun t e => h t (by simp [e])]
  case index t x i => rw [evg_congr (x := x) fun t e => h t (by simp [e]), evg_congr (x := i) fun t e => h t (by simp [e])]
  case extract x i => rw [evg_congr fun t e => h t (by simp [e])]
  case makeFunc fn first captured =>
    unfold aMkFunc
    split <;> first | rfl | skip
    rename_i h1 h2
    rw [← h2, evgs_congr fun t e => h t (by simp only [Array.toList_append, List.mem_append]; exact .inr e)]
  case makeInterface t x => rw [evg_congr fun t e => h t (by simp [e])]
  case call c => exact aQuietB_congr fun t e => h t (by simp only [Call.operands, Array.toList_append, List.mem_append]; exact .inr e)

theorem mk_congr {callf : CallF} {g g' : Nat → AV} {o : Oper} (h : ∀ t, .tmp t ∈ o.op.operands.toList → g' t = g t) : mk E callf g' H o = mk E callf g H o := by
  obtain ⟨dst, op, ty, pos, after, guard⟩ := o
  simp only at h
  have hp := pureV_congr (E := E) h
  cases op <;> simp only [mk, hp] <;> simp only [Op.operands] at h
  case load t a => rw [evg_congr fun t e => h t (by simp [e])]
  case store t a x => rw [evg_congr (x := a) fun t e => h t (by simp [e]), evg_congr (x := x) fun t e => h t (by simp [e])]
  case box t x => rw [evg_congr fun t e => h t (by simp [e])]
  case buildSlice t n ps => rw [aParts_congr fun t e => h t (by simpa using e)]
  case makeSlice t a b => rw [evg_congr (x := a) fun t e => h t (by simp [e]), evg_congr (x := b) fun t e => h t (by simp [e])]
  case convert s d x => rw [evg_congr fun t e => h t (by simp [e])]
  case call c =>
    have ha : ∀ t, .tmp t ∈ c.args.toList → g' t = g t := fun t e => h t (by simp only [Call.operands, Array.toList_append, List.mem_append]; exact .inr e)
    rw [evgs_congr ha, aQuietB_congr ha]
    cases hc : c.callee with
    | value f => simp only; rw [evg_congr (x := f) fun t e => h t (by simp [Call.operands, hc, e])]
    | invoke r m => rfl
    | builtin b => cases b <;> rfl

theorem mk_sound (hE : EnvOK P E) {callf : CallF} (hcall : CallOK P E N callf) {n : Nat} {g : Nat → AV} {a : Act} {o : Oper} {v : AV} (h : mk E callf g H o = some (v, H')) (hG : GlobOK E ρ) (hR : Rel N ρ H w) (hF : FRg ρ n g a)
    {next : Act → World → Prop} {Q : Exit → Act → World → Prop} (hn : ∀ u ρ' w', Lx H H' ρ ρ' → Rel N ρ' H' w' → VR ρ' v u → Below N w w' → next (a.put o.dst u) w') : o.wp P a w next Q := by
  obtain ⟨dst, op, ty, pos, after, guard⟩ := o
  cases op <;> simp only [mk] at h
  case load t x =>
    split at h
    case h_2 => cases h
    rename_i p hp
    split at h
    case h_2 => cases h
    rename_i v' hv
    cases h
    exact (Ok.val hR (load_ok hE hR (evg_VR hG hF hp) hv)).wp hn
  case store t x y =>
    split at h
    case h_2 => cases h
    rename_i p q hp hq
    split at h
    case h_2 => cases h
    rename_i H1 hs
    cases h
    obtain ⟨w', h1, h2, h3, hnx⟩ := store_ok hE hR (evg_VR hG hF hp) (evg_VR hG hF hq) hs
    exact Ok.wp (v := .und) ⟨undef, ρ, w', .inr ⟨by simp [execOp, h1], rfl⟩, Lx.same hnx, h2, by simp [VR, AV.und, VRs, undef], h3⟩ hn
  case alloc t => exact (Ok.eff (aAlloc_ok hE hR h)).wp hn
  case box t x =>
    split at h
    case h_2 => cases h
    rename_i p hp
    exact (Ok.eff (aBox_ok hR (evg_VR hG hF hp) h)).wp hn
  case buildSlice t len parts =>
    split at h
    case h_2 => cases h
    rename_i ps hps
    obtain ⟨h1, h2⟩ := aParts_ok hG hF parts.toList ps hps
    have := aBuildSlice_ok hE hR (us := parts.toList.map fun p => (p.1, a.eval p.2)) (by rw [h1]; simp [Function.comp_def]) (by rw [List.map_map]; exact h2) h
    refine (Ok.eff ?_).wp hn
    have e : (parts.map fun (i, x) => (i, a.eval x)) = (parts.toList.map fun p => (p.1, a.eval p.2)).toArray := by
      apply Array.ext'; simp
    rw [e]; exact this
  case makeSlice t l c =>
    split at h
    case h_2 => cases h
    rename_i p q hp hq
    exact (Ok.eff (aMake_ok hE hR (evg_VR hG hF hp) (evg_VR hG hF hq) h)).wp hn
  case convert s d x =>
    split at h
    case h_2 => cases h
    rename_i p hp
    have hv := evg_VR hG hF hp
    split at h
    · exact (Ok.eff (aBytes_ok hE hR hv h)).wp hn
    · split at h
      · rename_i v' hs
        cases h
        exact (Ok.eff (aSame_ok hE hR hv hs)).wp hn
      · cases h
    · split at h
      · rename_i v' hs
        cases h
        exact (Ok.val hR (aText_ok hE hR hv hs)).wp hn
      · cases h
    · split at h
      · split at h
        · rename_i v' hs
          cases h
          exact (Ok.val hR (aUnsafe_ok hE hR hv hs)).wp hn
        · cases h
      · split at h
        · rename_i v' hs
          cases h
          exact (Ok.val hR (aConv_ok hE hv hs)).wp hn
        · cases h
  case call c =>
    obtain ⟨callee, args, ts⟩ := c
    simp only at h
    split at h
    · split at h
      case h_2 => cases h
      rename_i s x hargs
      have hvs := evgs_VR hG hF hargs
      simp only [VRs] at hvs
      obtain ⟨us, _, e1, hus, ux, _, e2, hux, e3⟩ := hvs
      subst e3
      subst e2
      have e : args.map a.eval = #[us, ux] := by apply Array.ext'; simpa using e1
      have := append_ok hE hR hus hux h ty
      refine (Ok.eff (m := Builtin.append_ ts ty (args.map a.eval)) ?_).wp hn
      rw [e]; exact this
    · split at h
      case h_2 => cases h
      rename_i p n hargs
      have hvs := evgs_VR hG hF hargs
      simp only [VRs] at hvs
      obtain ⟨up, _, e1, hup, un, _, e2, hun, e3⟩ := hvs
      subst e3
      subst e2
      have e : args.map a.eval = #[up, un] := by apply Array.ext'; simpa using e1
      have := aUString_ok hE hR hup hun h ty
      refine (Ok.eff (m := Builtin.unsafeString_ ts ty (args.map a.eval)) ?_).wp hn
      rw [e]; exact this
    · rename_i f
      have enter : ∀ {fid : FuncId} {fn : Func} {us cs : Array Value} {vs : List AV}, E.fn fid = some fn → a.eval f = .func (.func fid) #[] cs → us = args.map a.eval → VRs ρ vs (us ++ cs).toList → callf fid vs H = some (v, H') →
          Oper.wp P ⟨dst, .call ⟨.value f, args, ts⟩, ty, pos, after, guard⟩ a w next Q := by
        intro fid fn us cs vs hfn hfv hus hvs h
        subst hus
        obtain ⟨⟨cd, hcd⟩, hname⟩ := hE.fnB fid fn hfn
        have hfn' := hE.fn fid fn hfn
        have hrun : (execOp a.eval ⟨dst, .call ⟨.value f, args, ts⟩, ty, pos, after, guard⟩).run P w = .ok (.enter fid (args.map a.eval ++ cs)) w := by
          simp only [execOp, resolve, hfv, Deferred.ofValue, Sem.run_bind, Sem.run_pure, Result.andThen_ok, invoke, callFunc, run_program, Array.empty_append, hfn', hcd, Option.isNone_some, Bool.false_eq_true, if_false]
          have : (fn.name == "runtime.NumGoroutine") = false := by simpa using hname
          simp [this]
        unfold Oper.wp
        rw [hrun]
        simp only [Oper.upon]
        refine (hcall fid vs H v H' h ρ w _ hG hR hvs).mono fun e w' he => ?_
        obtain ⟨u, ρ', rfl, h1, h2, h3, h4⟩ := he
        exact hn u ρ' w' h1 h2 h3 h4
      split at h
      · rename_i fid hf
        have hfv := evg_VR hG hF hf
        simp only [VR] at hfv
        split at h
        · rename_i fn vs hfn hargs
          have hvs := evgs_VR hG hF hargs
          rw [← Array.toList_map] at hvs
          exact enter hfn hfv rfl (by simpa using hvs) h
        · rename_i x hfn hargs
          split at h
          case h_2 => cases h
          rename_i hx
          cases h
          have hvs := evgs_VR hG hF hargs
          simp only [VRs] at hvs
          obtain ⟨u, _, e1, hu, e2⟩ := hvs
          subst e2
          have e : args.map a.eval = #[u] := by apply Array.ext'; simpa using e1
          obtain ⟨fn, k1, k2, k3, k4, k5⟩ := hE.ext fid hx
          refine (show Ok P N ρ H w (execOp a.eval ⟨dst, .call ⟨.value f, args, ts⟩, ty, pos, after, guard⟩) v H from
            ⟨u, ρ, w, .inl ?_, Lx.refl _ _, hR, hu, Below.refl _ _⟩).wp hn
          simp only [execOp, resolve, hfv, Deferred.ofValue, Sem.run_bind, Sem.run_pure, Result.andThen_ok, invoke, Array.append_empty, Array.empty_append]
          rw [run_callFunc_extern k1 k2 k3 k4 k5, e, Lib.run_noEscape]
          rfl
        · cases h
      · rename_i fid cs hf
        have hfv := evg_VR hG hF hf
        simp only [VR] at hfv
        obtain ⟨ucs, hfv, hcs⟩ := hfv
        split at h
        case h_2 => cases h
        rename_i fn vs hfn hargs
        have hvs := evgs_VR hG hF hargs
        rw [← Array.toList_map] at hvs
        exact enter hfn hfv rfl (by rw [Array.toList_append]; exact hvs.append hcs) h
      · cases h
    · split at h
      · rename_i v' hv
        cases h
        exact (pureV_ok hE hG hR hF (o := ⟨dst, .call ⟨callee, args, ts⟩, ty, pos, after, guard⟩) hv).wp hn
      · cases h
  all_goals
    split at h
    · rename_i v' hv
      cases h
      exact (pureV_ok hE hG hR hF hv).wp hn
    · cases h

theorem mk_ok (hE : EnvOK P E) {callf : CallF} (hcall : CallOK P E N callf) : StepOK P E N (mk E callf) (effO E) (readsO E) where
  sound := fun h hG hR hF _ _ hn => mk_sound hE hcall h hG hR hF hn
  congr := fun hc h => by rw [mk_congr hc]; exact h
  free := by
    intro g H H' o v t ho h
    obtain ⟨dst, op, ty, pos, after, guard⟩ := o
    simp only at ho
    subst ho
    simp only [mk, aAlloc] at h
    split at h
    case h_2 => cases h
    rename_i ti hti
    split at h
    case h_2 => cases h
    rename_i z hz
    split at h
    case h_2 => cases h
    rename_i b H1 hn
    cases h
    unfold aNew at hn
    split at hn
    case h_2 => cases hn
    rename_i hf
    split at hn
    case h_2 => cases hn
    rename_i H2 hnew
    cases hn
    obtain ⟨i, hi, hiz⟩ : ∃ i, P.info? t = some i ∧ ∃ u, i.zero = some u ∧ ofValue u = some z := by
      obtain ⟨_, i, j1, _, _, j3⟩ := hE.ti t ti hti
      exact ⟨i, j1, j3 z hz⟩
    obtain ⟨u, hu, huz⟩ := hiz
    refine ⟨z.cells, t, hnew, rfl, fun x hx => (List.all_eq_true.1 hf) x hx, u.cells, fun ρ => (ofValue_VR ρ huz).1.cells, fun a w => ?_⟩
    simp [execOp, Instr.alloc, zeroValue, typeInfo, hi, hu, newVar, newRow]
  quiet := fun he h => mk_quiet he h
  pure := fun he hr h => mk_pure he hr h

/-- What a call comes to in the machine, it comes to in the program. -/
theorem machine_ok (hE : EnvOK P E) (hp : PrimOK P E N) (fuel : Nat) : CallOK P E N (callN E (effO E) (readsO E) (mk E) fuel) :=
  callN_ok hE hp (fun _ hcall => mk_ok hE hcall) fuel

end
end
end Go.Proofs.YtofpjpeededndaaGreatDoorSim
