/- OPERATIONS THAT NEITHER READ NOR CHANGE MEMORY. -/
import Derived.Test.YtofpjpeededndaaGreatDoorSimC
import Derived.Laws.Strings
set_option linter.unusedVariables false
namespace Go.Proofs.YtofpjpeededndaaGreatDoorSim
noncomputable section
open Go.RowKit (Below)

def evg (E : Env) (g : Nat → AV) : Operand → Option AV
  | .tmp t => some (g t)
  | .const v => ofValue v
  | .global n => match E.glob n with | true => some (.ptr n 0) | false => none
  | .func f => some (.func f)

def evgs (E : Env) (g : Nat → AV) : List Operand → Option (List AV)
  | [] => some []
  | x :: xs => match evg E g x with
    | some v => match evgs E g xs with
      | some vs => some (v :: vs)
      | none => none
    | none => none

section
variable {P : Program} {E : Env} {N : Nat} {ρ : Pl} {H H' : AH} {w : World}

theorem evg_VR {n : Nat} {g : Nat → AV} {a : Act} (hg : GlobOK E ρ) (h : FRg ρ n g a) {x : Operand} {v : AV} (hv : evg E g x = some v) : VR ρ v (a.eval x) := by
  cases x with
  | tmp t => cases hv; exact h.tmp t
  | const c => exact (ofValue_VR ρ hv).1
  | global m =>
    simp only [evg] at hv
    split at hv
    · rename_i hgl
      cases hv
      obtain ⟨x, hx⟩ := hg m hgl
      simp only [VR, Act.eval]
      exact ⟨_, hx, rfl⟩
    · cases hv
  | func f =>
    cases hv
    simp [VR, Act.eval]

theorem evgs_VR {n : Nat} {g : Nat → AV} {a : Act} (hg : GlobOK E ρ) (h : FRg ρ n g a) : ∀ {xs : List Operand} {vs : List AV}, evgs E g xs = some vs → VRs ρ vs (xs.map a.eval)
  | [], vs, hv => by cases hv; simp [VRs]
  | x :: xs, vs, hv => by
    simp only [evgs] at hv
    split at hv
    · rename_i v hx
      split at hv
      · rename_i vs' hxs
        cases hv
        simp only [List.map_cons, VRs]
        exact ⟨_, _, rfl, evg_VR hg h hx, evgs_VR hg h hxs⟩
      · cases hv
    · cases hv

theorem evg_congr {g g' : Nat → AV} {x : Operand} (h : ∀ t, x = .tmp t → g' t = g t) : evg E g' x = evg E g x := by
  cases x with
  | tmp t => simp only [evg]; rw [h t rfl]
  | _ => rfl

theorem evgs_congr {g g' : Nat → AV} : ∀ {xs : List Operand}, (∀ t, .tmp t ∈ xs → g' t = g t) → evgs E g' xs = evgs E g xs
  | [], _ => rfl
  | x :: xs, h => by
    simp only [evgs]
    rw [evg_congr (fun t e => h t (by simp [e])), evgs_congr (fun t e => h t (by simp [e]))]

/-! ### whole numbers, strings, equality -/
def aBits (op : BinOp) (k : IntKind) (x y : Int) : Option Int :=
  let a := BitVec.ofInt k.bits x
  let b := BitVec.ofInt k.bits y
  match op with
  | .and => some (k.wrap (a &&& b).toNat)
  | .or => some (k.wrap (a ||| b).toNat)
  | .xor => some (k.wrap (a ^^^ b).toNat)
  | .andNot => some (k.wrap (a &&& ~~~b).toNat)
  | _ => none

def ltZ : Int → Int → Bool
  | .ofNat a, .ofNat b => Nat.blt a b
  | .negSucc _, .ofNat _ => true
  | .ofNat _, .negSucc _ => false
  | .negSucc a, .negSucc b => Nat.blt b a
def eqZ : Int → Int → Bool
  | .ofNat a, .ofNat b => Nat.beq a b
  | .negSucc a, .negSucc b => Nat.beq a b
  | _, _ => false
theorem ltZ_eq (x y : Int) : ltZ x y = decide (x < y) := by
  cases x with
  | ofNat a => cases y with
    | ofNat b => simp only [ltZ]; rw [Bool.eq_iff_iff, Nat.blt_eq, decide_eq_true_eq]; exact Int.ofNat_lt.symm
    | negSucc b => simp only [ltZ]; symm; rw [decide_eq_false_iff_not]; have := Int.negSucc_lt_zero b; have h2 := Int.natCast_nonneg a; intro h; have h3 : (Int.ofNat a : Int) = (a : Int) := rfl; omega
  | negSucc a => cases y with
    | ofNat b => simp only [ltZ]; symm; rw [decide_eq_true_eq]; have := Int.negSucc_lt_zero a; have h2 := Int.natCast_nonneg b; have h3 : (Int.ofNat b : Int) = (b : Int) := rfl; omega
    | negSucc b => simp only [ltZ]; rw [Bool.eq_iff_iff, Nat.blt_eq, decide_eq_true_eq]; omega
theorem eqZ_eq (x y : Int) : eqZ x y = decide (x = y) := by
  cases x with
  | ofNat a => cases y with
    | ofNat b => simp only [eqZ]; rw [Bool.eq_iff_iff, Nat.beq_eq, decide_eq_true_eq]; exact ⟨fun h => by rw [h], fun h => Int.ofNat.inj h⟩
    | negSucc b => simp only [eqZ]; symm; rw [decide_eq_false_iff_not]; intro h; cases h
  | negSucc a => cases y with
    | ofNat b => simp only [eqZ]; symm; rw [decide_eq_false_iff_not]; intro h; cases h
    | negSucc b => simp only [eqZ]; rw [Bool.eq_iff_iff, Nat.beq_eq, decide_eq_true_eq]; exact ⟨fun h => by rw [h], fun h => Int.negSucc.inj h⟩

def aInt (op : BinOp) (k : IntKind) (x y : Int) : Option AV :=
  match op with
  | .add => some (.int k (k.wrap (x + y)))
  | .sub => some (.int k (k.wrap (x - y)))
  | .mul => some (.int k (k.wrap (x * y)))
  | .quo => match decide (y = 0) with | true => none | false => some (.int k (k.wrap (x.tdiv y)))
  | .rem => match decide (y = 0) with | true => none | false => some (.int k (x.tmod y))
  | .and | .or | .xor | .andNot => match aBits op k x y with | some n => some (.int k n) | none => none
  | .eql => some (.bool (eqZ x y))
  | .neq => some (.bool (!eqZ x y))
  | .lss => some (.bool (ltZ x y))
  | .leq => some (.bool (!ltZ y x))
  | .gtr => some (.bool (ltZ y x))
  | .geq => some (.bool (!ltZ x y))
  | .shl | .shr => none

def aShift (op : BinOp) (k : IntKind) (x y : Int) : Option AV :=
  match decide (y < 0) with
  | true => none
  | false => match op with
    | .shl => some (.int k (k.wrap (x * 2 ^ (min y.toNat k.bits))))
    | .shr => some (.int k (x.fdiv (2 ^ (min y.toNat k.bits))))
    | _ => none

def listLess : List Nat → List Nat → Bool
  | _, [] => false
  | [], _ :: _ => true
  | a :: x, b :: y => Nat.blt a b || (Nat.beq a b && listLess x y)

def aStr (op : BinOp) (x y : List Nat) : Option AV :=
  match op with
  | .add => match Nat.ble (x.length + y.length) 1099511627776 with
    | true => some (.str (x ++ y))
    | false => none
  | .eql => some (.bool (decide (x = y)))
  | .neq => some (.bool (!decide (x = y)))
  | .lss => some (.bool (listLess x y))
  | .leq => some (.bool (listLess x y || decide (x = y)))
  | .gtr => some (.bool (!(listLess x y || decide (x = y))))
  | .geq => some (.bool (!listLess x y))
  | _ => none

theorem bs_data (s : List Nat) : (bs s).data = (s.map UInt8.ofNat).toArray := rfl
theorem bs_size (s : List Nat) : (bs s).size = s.length := by simp [ByteArray.size, bs]
theorem bs_append (x y : List Nat) : bs (x ++ y) = bs x ++ bs y := by
  apply ByteArray.ext
  rw [ByteArray.data_append]
  simp [bs]

theorem map_inj : ∀ {x y : List Nat}, (∀ a ∈ x, a < 256) → (∀ a ∈ y, a < 256) → x.map UInt8.ofNat = y.map UInt8.ofNat → x = y
  | [], [], _, _, _ => rfl
  | [], _ :: _, _, _, h => by simp at h
  | _ :: _, [], _, _, h => by simp at h
  | a :: x, b :: y, hx, hy, h => by
    simp only [List.map_cons, List.cons.injEq] at h
    have ha := hx a (by simp)
    have hb := hy b (by simp)
    have e : a = b := by
      have := congrArg UInt8.toNat h.1
      simpa [UInt8.toNat_ofNat', Nat.mod_eq_of_lt, ha, hb] using this
    rw [e, map_inj (fun c hc => hx c (by simp [hc])) (fun c hc => hy c (by simp [hc])) h.2]

theorem byteArray_toList (s : ByteArray) : s.toList = s.data.toList := ByteArray.toList_eq s

theorem bs_toList (s : List Nat) : (bs s).toList = s.map UInt8.ofNat := by rw [byteArray_toList]; simp [bs]

theorem bs_eq {x y : List Nat} (hx : ∀ a ∈ x, a < 256) (hy : ∀ a ∈ y, a < 256) : ((bs x).toList == (bs y).toList) = decide (x = y) := by
  rw [bs_toList, bs_toList, Bool.eq_iff_iff, beq_iff_eq, decide_eq_true_eq]
  exact ⟨map_inj hx hy, fun e => by rw [e]⟩

theorem bs_less : ∀ {x y : List Nat}, (∀ a ∈ x, a < 256) → (∀ a ∈ y, a < 256) → Op.bytesLess (x.map UInt8.ofNat) (y.map UInt8.ofNat) = listLess x y
  | x, [], _, _ => by cases x <;> rfl
  | [], b :: y, _, _ => rfl
  | a :: x, b :: y, hx, hy => by
    have ha := hx a (by simp)
    have hb := hy b (by simp)
    simp only [List.map_cons, Op.bytesLess, listLess]
    rw [bs_less (fun c hc => hx c (by simp [hc])) (fun c hc => hy c (by simp [hc]))]
    congr 1
    · rw [Bool.eq_iff_iff, decide_eq_true_eq, Nat.blt_eq, UInt8.lt_iff_toNat_lt, UInt8.toNat_ofNat', UInt8.toNat_ofNat', Nat.mod_eq_of_lt ha, Nat.mod_eq_of_lt hb]
    · congr 1
      rw [Bool.eq_iff_iff, beq_iff_eq, Nat.beq_eq]
      constructor
      · intro h
        have := congrArg UInt8.toNat h
        simpa [UInt8.toNat_ofNat', Nat.mod_eq_of_lt, ha, hb] using this
      · rintro rfl; rfl

theorem aStr_ok {op : BinOp} {x y : List Nat} {v : AV} (hx : ∀ a ∈ x, a < 256) (hy : ∀ a ∈ y, a < 256) (h : aStr op x y = some v) :
    ∃ u, (Op.stringOp op (bs x) (bs y)).run P w = .ok u w ∧ VR ρ v u := by
  have e := bs_eq hx hy
  have l : Op.bytesLess (bs x).toList (bs y).toList = listLess x y := by rw [bs_toList, bs_toList]; exact bs_less hx hy
  unfold Op.stringOp
  simp only [e, l]
  cases op <;> simp only [aStr] at h <;> try (cases h; done)
  case add =>
    split at h
    · rename_i hle
      rw [Nat.ble_eq] at hle
      cases h
      simp only
      rw [if_neg (by rw [bs_size, bs_size]; simp only [IntKind.max, IntKind.signed, IntKind.bits, if_true]; omega)]
      refine ⟨_, rfl, ?_⟩
      simp only [VR]
      refine ⟨by rw [bs_append], fun a ha => ?_⟩
      rcases List.mem_append.1 ha with h | h
      · exact hx a h
      · exact hy a h
    · cases h
  all_goals
    cases h
    exact ⟨_, rfl, by simp [VR]⟩

theorem aInt_ok {op : BinOp} {k : IntKind} {x y : Int} {v : AV} (h : aInt op k x y = some v) (t : TypeId) : ∃ u, (binOp op t (.int k x) (.int k y)).run P w = .ok u w ∧ VR ρ v u := by
  cases op <;> simp only [aInt] at h
  case shl => cases h
  case shr => cases h
  case quo =>
    split at h
    · cases h
    · rename_i hd
      simp only [decide_eq_false_iff_not] at hd
      cases h
      refine ⟨.int k (k.wrap (x.tdiv y)), ?_, by simp only [VR]⟩
      simp [binOp, Op.intDiv, hd]
  case rem =>
    split at h
    · cases h
    · rename_i hd
      simp only [decide_eq_false_iff_not] at hd
      cases h
      refine ⟨.int k (x.tmod y), ?_, by simp only [VR]⟩
      simp [binOp, Op.intDiv, hd]
  case and =>
    simp only [aBits, Option.some.injEq] at h
    cases h
    exact ⟨_, by simp only [binOp, if_false, ne_eq, not_true_eq_false]; rfl, by simp only [VR]⟩
  case or =>
    simp only [aBits, Option.some.injEq] at h
    cases h
    exact ⟨_, by simp only [binOp, if_false, ne_eq, not_true_eq_false]; rfl, by simp only [VR]⟩
  case xor =>
    simp only [aBits, Option.some.injEq] at h
    cases h
    exact ⟨_, by simp only [binOp, if_false, ne_eq, not_true_eq_false]; rfl, by simp only [VR]⟩
  case andNot =>
    simp only [aBits, Option.some.injEq] at h
    cases h
    exact ⟨_, by simp only [binOp, if_false, ne_eq, not_true_eq_false]; rfl, by simp only [VR]⟩
  case eql =>
    cases h
    exact ⟨_, by simp only [binOp, if_false, ne_eq, not_true_eq_false]; rfl, by simp only [VR, eqZ_eq]; congr 1⟩
  case neq =>
    cases h
    exact ⟨_, by simp only [binOp, if_false, ne_eq, not_true_eq_false]; rfl, by simp only [VR, eqZ_eq]; congr 1⟩
  case lss =>
    cases h
    exact ⟨_, by simp only [binOp, if_false, ne_eq, not_true_eq_false]; rfl, by simp only [VR, ltZ_eq]⟩
  case gtr =>
    cases h
    exact ⟨_, by simp only [binOp, if_false, ne_eq, not_true_eq_false]; rfl, by simp only [VR, ltZ_eq]⟩
  case leq =>
    cases h
    refine ⟨_, by simp only [binOp, if_false, ne_eq, not_true_eq_false]; rfl, ?_⟩
    simp only [VR, ltZ_eq]
    congr 1
    rw [Bool.eq_iff_iff]
    simp
  case geq =>
    cases h
    refine ⟨_, by simp only [binOp, if_false, ne_eq, not_true_eq_false]; rfl, ?_⟩
    simp only [VR, ltZ_eq]
    congr 1
    rw [Bool.eq_iff_iff]
    simp
  all_goals
    cases h
    exact ⟨_, by simp only [binOp, if_false, ne_eq, not_true_eq_false]; rfl, by simp only [VR]⟩

theorem aShift_ok {op : BinOp} {k k' : IntKind} {x y : Int} {v : AV} (ho : op = .shl ∨ op = .shr) (h : aShift op k x y = some v) (t : TypeId) :
    ∃ u, (binOp op t (.int k x) (.int k' y)).run P w = .ok u w ∧ VR ρ v u := by
  unfold aShift at h
  split at h
  · cases h
  · rename_i hd
    simp only [decide_eq_false_iff_not] at hd
    rcases ho with rfl | rfl
    · cases h
      exact ⟨.int k (k.wrap (x * 2 ^ (min y.toNat k.bits))), by simp [binOp, Op.shift, hd], by simp only [VR]⟩
    · cases h
      exact ⟨.int k (x.fdiv (2 ^ (min y.toNat k.bits))), by simp [binOp, Op.shift, hd], by simp only [VR]⟩

/-- Equality of values of a type. -/
def aPart (E : Env) (t : TypeId) (cs : List AV) (off : Nat) : Option AV :=
  match E.ti t with
  | some x => match aggT x.desc with
    | true => some (.agg ((cs.drop off).take x.size))
    | false => cs[off]?
  | none => none

theorem part_ok (hE : EnvOK P E) {t : TypeId} {cs : List AV} {us : Array Value} {off : Nat} {v : AV} (hc : VRs ρ cs us.toList) (h : aPart E t cs off = some v) :
    ∃ u, (part t us off).run P w = .ok u w ∧ VR ρ v u := by
  unfold aPart at h
  split at h
  case h_2 => cases h
  rename_i x hx
  split at h
  · rename_i ha
    cases h
    refine ⟨.agg (us.extract off (off + x.size)), ?_, ?_⟩
    · simp [part, hE.agg hx, ha, hE.size hx]
    · simp only [VR]
      refine ⟨_, rfl, ?_⟩
      have := (hc.drop off).take x.size
      rw [Array.toList_extract]
      simpa [List.extract] using this
  · rename_i ha
    obtain ⟨u, h1, h2⟩ := hc.get _ _ h
    rw [Array.getElem?_toList] at h1
    refine ⟨u, ?_, h2⟩
    simp [part, hE.agg hx, ha, h1]

def aEqFields (E : Env) (eq : TypeId → AV → AV → Option Bool) (xs ys : List AV) : List Field → Option Bool
  | [] => some true
  | f :: fs =>
    match decide (f.name = "_") with
    | true => aEqFields E eq xs ys fs
    | false => match aPart E f.type xs f.offset, aPart E f.type ys f.offset with
      | some a, some b => match eq f.type a b with
        | some true => aEqFields E eq xs ys fs
        | some false => some false
        | none => none
      | _, _ => none

def aEqItems (E : Env) (eq : TypeId → AV → AV → Option Bool) (elem sz : Nat) (xs ys : List AV) : List Nat → Option Bool
  | [] => some true
  | i :: is => match aPart E elem xs (i * sz), aPart E elem ys (i * sz) with
    | some a, some b => match eq elem a b with
      | some true => aEqItems E eq elem sz xs ys is
      | some false => some false
      | none => none
    | _, _ => none

def aEq (E : Env) : Nat → TypeId → AV → AV → Option Bool
  | 0, _, _, _ => none
  | d + 1, t, x, y =>
    match E.ti t with
    | none => none
    | some ti =>
    match ti.desc, x, y with
    | .bool, .bool a, .bool b => some (a == b)
    | .int _, .int k a, .int l b => match decide (k = l) with | true => some (decide (a = b)) | false => none
    | .string, .str a, .str b => some (decide (a = b))
    | .pointer _, .nilp, .nilp => some true
    | .pointer _, .nilp, .ptr _ _ => some false
    | .pointer _, .ptr _ _, .nilp => some false
    | .pointer e, .ptr b o, .ptr c p => match Nat.beq b c, E.ti e with
      | true, some te => match te.size with
        | 0 => none
        | _ => some (Nat.beq o p)
      | _, _ => none
    | .slice _, .nils, .nils => some true
    | .slice _, .nils, .slice _ _ _ _ _ => some false
    | .slice _, .slice _ _ _ _ _, .nils => some false
    | .func _ _ _, .nilf, .nilf => some true
    | .func _ _ _, .nilf, .func _ => some false
    | .func _ _ _, .func _, .nilf => some false
    | .func _ _ _, .nilf, .clo _ _ => some false
    | .func _ _ _, .clo _ _, .nilf => some false
    | .interface _, .nili, .nili => some true
    | .interface _, .nili, .iface _ _ => some false
    | .interface _, .iface _ _, .nili => some false
    | .struct fields, .agg xs, .agg ys => match E.plain t with
      | true => aEqFields E (aEq E d) xs ys fields.toList
      | false => none
    | .array len elem, .agg xs, .agg ys => match E.plain t, E.ti elem with
      | true, some te => aEqItems E (aEq E d) elem te.size xs ys (List.range len)
      | _, _ => none
    | _, _, _ => none

theorem str_eq {x y : List Nat} (hx : ∀ a ∈ x, a < 256) (hy : ∀ a ∈ y, a < 256) : (bs x == bs y) = decide (x = y) := by
  have e : (bs x == bs y) = ((bs x).data == (bs y).data) := rfl
  rw [e, Bool.eq_iff_iff, beq_iff_eq, decide_eq_true_eq]
  refine ⟨fun h => map_inj hx hy ?_, fun e => by rw [e]⟩
  have := congrArg (fun b => b.toList) h
  simpa [bs] using this

theorem forIn_fields (hE : EnvOK P E) {d : Nat} {xs ys : List AV} {us vs : Array Value} (hx : VRs ρ xs us.toList) (hy : VRs ρ ys vs.toList)
    (ih : ∀ (t : TypeId) (x y : AV) (u v : Value) (b : Bool), VR ρ x u → VR ρ y v → aEq E d t x y = some b → (Op.equalIn d t u v).run P w = .ok b w) :
    ∀ (fs : List Field) (b : Bool), aEqFields E (aEq E d) xs ys fs = some b →
      ((forIn fs ((none, ()) : Option Bool × Unit) fun (f : Field) (r : Option Bool × Unit) =>
        if f.name ≠ "_" then do
          if !(← Op.equalIn d f.type (← part f.type us f.offset) (← part f.type vs f.offset)) then
            Pure.pure (ForInStep.done (some false, ()))
          else Pure.pure (ForInStep.yield (none, ()))
        else Pure.pure (ForInStep.yield (none, ())) : Sem (Option Bool × Unit))).run P w = .ok ((if b then none else some false), ()) w
  | [], b, h => by cases h; rfl
  | f :: fs, b, h => by
    simp only [aEqFields] at h
    rw [List.forIn_cons]
    simp only [Sem.run_bind]
    split at h
    · rename_i hn
      simp only [decide_eq_true_eq] at hn
      simp only [hn, ne_eq, not_true_eq_false, if_false, Sem.run_pure, Result.andThen_ok]
      exact forIn_fields hE hx hy ih fs b h
    · rename_i hn
      simp only [decide_eq_false_iff_not] at hn
      split at h
      case h_2 => cases h
      rename_i a c ha hc
      obtain ⟨u1, p1, q1⟩ := part_ok (w := w) hE hx ha
      obtain ⟨u2, p2, q2⟩ := part_ok (w := w) hE hy hc
      simp only [ne_eq, hn, not_false_eq_true, if_true, Sem.run_bind, p1, p2, Result.andThen_ok]
      split at h
      · rename_i he
        rw [ih _ _ _ _ _ _ q1 q2 he]
        simp only [Result.andThen_ok, Bool.not_true, Bool.false_eq_true, if_false, Sem.run_pure]
        exact forIn_fields hE hx hy ih fs b h
      · rename_i he
        cases h
        rw [ih _ _ _ _ _ _ q1 q2 he]
        rfl
      · cases h

theorem forIn_items (hE : EnvOK P E) {d : Nat} {elem sz : Nat} {xs ys : List AV} {us vs : Array Value} (hx : VRs ρ xs us.toList) (hy : VRs ρ ys vs.toList)
    (ih : ∀ (t : TypeId) (x y : AV) (u v : Value) (b : Bool), VR ρ x u → VR ρ y v → aEq E d t x y = some b → (Op.equalIn d t u v).run P w = .ok b w) :
    ∀ (is : List Nat) (b : Bool), aEqItems E (aEq E d) elem sz xs ys is = some b →
      ((forIn is ((none, ()) : Option Bool × Unit) fun (i : Nat) (r : Option Bool × Unit) => do
          if !(← Op.equalIn d elem (← part elem us (i * sz)) (← part elem vs (i * sz))) then
            Pure.pure (ForInStep.done (some false, ()))
          else Pure.pure (ForInStep.yield (none, ())) : Sem (Option Bool × Unit))).run P w = .ok ((if b then none else some false), ()) w
  | [], b, h => by cases h; rfl
  | i :: is, b, h => by
    simp only [aEqItems] at h
    rw [List.forIn_cons]
    simp only [Sem.run_bind]
    split at h
    case h_2 => cases h
    rename_i a c ha hc
    obtain ⟨u1, p1, q1⟩ := part_ok (w := w) hE hx ha
    obtain ⟨u2, p2, q2⟩ := part_ok (w := w) hE hy hc
    simp only [p1, p2, Result.andThen_ok]
    split at h
    · rename_i he
      rw [ih _ _ _ _ _ _ q1 q2 he]
      simp only [Result.andThen_ok, Bool.not_true, Bool.false_eq_true, if_false, Sem.run_pure]
      exact forIn_items hE hx hy ih is b h
    · rename_i he
      cases h
      rw [ih _ _ _ _ _ _ q1 q2 he]
      rfl
    · cases h

theorem aEq_ok (hE : EnvOK P E) : ∀ (d : Nat) (t : TypeId) (x y : AV) (u v : Value) (b : Bool), VR ρ x u → VR ρ y v → aEq E d t x y = some b → (Op.equalIn d t u v).run P w = .ok b w
  | 0, _, _, _, _, _, _, _, _, h => by simp [aEq] at h
  | d + 1, t, x, y, u, v, b, hx, hy, h => by
    rw [aEq] at h
    split at h
    · cases h
    rename_i ti hti
    rw [Op.equalIn]
    simp only [Sem.run_bind, hE.und hti, Result.andThen_ok]
    split at h
    · rename_i hd; rw [hd]; simp only [VR] at hx hy; subst hx; subst hy; cases h; rfl
    · rename_i hd; rw [hd]; simp only [VR] at hx hy; subst hx; subst hy
      split at h
      · rename_i hk
        simp only [decide_eq_true_eq] at hk
        subst hk
        cases h
        simp only [if_true, Sem.run_pure]
        rfl
      · cases h
    · rename_i hd; rw [hd]; simp only [VR] at hx hy; obtain ⟨rfl, hx⟩ := hx; obtain ⟨rfl, hy⟩ := hy; cases h
      simp only [Sem.run_pure, str_eq hx hy]
    · rename_i hd; rw [hd]; simp only [VR] at hx hy; subst hx; subst hy; cases h; rfl
    · rename_i hd; rw [hd]; simp only [VR] at hx hy; subst hx; obtain ⟨L, _, rfl⟩ := hy; cases h; rfl
    · rename_i hd; rw [hd]; simp only [VR] at hx hy; obtain ⟨L, _, rfl⟩ := hx; subst hy; cases h; rfl
    · rename_i e b o c p hd
      rw [hd]
      simp only [VR] at hx hy
      obtain ⟨L, hL, rfl⟩ := hx
      obtain ⟨M, hM, rfl⟩ := hy
      split at h
      case h_2 => cases h
      rename_i te hbc hte
      rw [Nat.beq_eq] at hbc
      subst hbc
      rw [hL] at hM
      cases hM
      split at h
      · cases h
      rename_i hsz
      cases h
      have hsz : te.size ≠ 0 := fun e => hsz (by rw [e])
      simp only [Sem.run_bind, hE.size hte, Result.andThen_ok, sameAddr, beq_self_eq_true, if_true]
      rw [if_pos hsz, Sem.run_pure]
      have e : ((⟨L.B, L.o + o, none⟩ : Addr) == ⟨L.B, L.o + p, none⟩) = Nat.beq o p := by
        rw [Bool.eq_iff_iff, beq_iff_eq, Nat.beq_eq]
        constructor
        · intro h; injection h with _ h _; omega
        · intro h; rw [h]
      rw [e]
    · rename_i hd; rw [hd]; simp only [VR] at hx hy; subst hx; subst hy; cases h; rfl
    · rename_i hd; rw [hd]; simp only [VR] at hx hy; subst hx; obtain ⟨L, a, c, _, rfl, _⟩ := hy; cases h; rfl
    · rename_i hd; rw [hd]; simp only [VR] at hx hy; obtain ⟨L, a, c, _, rfl, _⟩ := hx; subst hy; cases h; rfl
    · rename_i hd; rw [hd]; simp only [VR] at hx hy; subst hx; subst hy; cases h; rfl
    · rename_i hd; rw [hd]; simp only [VR] at hx hy; subst hx; subst hy; cases h; rfl
    · rename_i hd; rw [hd]; simp only [VR] at hx hy; subst hx; subst hy; cases h; rfl
    · rename_i hd; rw [hd]; simp only [VR] at hx hy; subst hx; obtain ⟨cs, rfl, _⟩ := hy; cases h; rfl
    · rename_i hd; rw [hd]; simp only [VR] at hx hy; obtain ⟨cs, rfl, _⟩ := hx; subst hy; cases h; rfl
    · rename_i hd; rw [hd]; simp only [VR] at hx hy; subst hx; subst hy; cases h; rfl
    · rename_i hd; rw [hd]; simp only [VR] at hx hy; subst hx; obtain ⟨z, rfl, _⟩ := hy; cases h; rfl
    · rename_i hd; rw [hd]; simp only [VR] at hx hy; obtain ⟨z, rfl, _⟩ := hx; subst hy; cases h; rfl
    · rename_i fields xs ys hd
      rw [hd]
      simp only [VR] at hx hy
      obtain ⟨us, rfl, hx⟩ := hx
      obtain ⟨vs, rfl, hy⟩ := hy
      split at h
      case h_2 => cases h
      rename_i hp
      have hst := (hE.plain t hp).1
      simp only [run_program, Sem.run_bind, Result.andThen_ok, hst, Bool.false_eq_true, if_false]
      have := forIn_fields hE hx hy (fun t x y u v b => aEq_ok hE d t x y u v b) fields.toList b h
      rw [← Array.forIn_toList]
      erw [this]
      cases b <;> rfl
    · rename_i len elem xs ys hd
      rw [hd]
      simp only [VR] at hx hy
      obtain ⟨us, rfl, hx⟩ := hx
      obtain ⟨vs, rfl, hy⟩ := hy
      split at h
      case h_2 => cases h
      rename_i te hp hte
      have := forIn_items hE hx hy (fun t x y u v b => aEq_ok hE d t x y u v b) (List.range len) b h
      simp only [Sem.run_bind, hE.size hte, Result.andThen_ok, Std.Legacy.Range.forIn_eq_forIn_range', Std.Legacy.Range.size, Nat.sub_zero, Nat.add_sub_cancel, Nat.div_one]
      rw [← List.range_eq_range']
      erw [this]
      cases b <;> rfl
    · cases h

end
end
end Go.Proofs.YtofpjpeededndaaGreatDoorSim
