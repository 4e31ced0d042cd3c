/- The machine over this program: its tables, the library's calls that it takes by contract, the listed table. -/
import Derived.Test.YtofpjpeededndaaGreatDoorShelf
import Derived.Test.YtofpjpeededndaaGreatDoorChecked
import Derived.Test.YtofpjpeededndaaGreatDoorSimT
import Derived.Lib.LaidTab
import Derived.Lib.ItoaMem
import Derived.Lib.Strings
import Derived.KernelRfl
import Derived.WalkKit
import Derived.WalkSpells
import Derived.WalkLawsBesides
import Derived.Shelf.Strings.FuncGrows
set_option linter.unusedVariables false
set_option linter.unusedSimpArgs false
namespace Go.Proofs.YtofpjpeededndaaGreatDoorX
open Go.RowKit Go.Shelf Go.Proofs.YtofpjpeededndaaGreatDoorSim
/-- What the row's list says of a world. -/
structure LaidW (w : World) : Prop where
  one : True
  pow10 : Lib.TabIs Tryz.prog w "internal/strconv.uint64pow10" .u64 Lib.pow10Tab
def isDig (c : UInt8) : Bool := 48 ≤ c && c ≤ 57
theorem get!_at (s : ByteArray) (p : Nat) (h : p < s.size) : s.get! p = s[p] := by
  show s.data[p]! = s.data[p]
  exact getElem!_pos s.data p h
theorem decode_low (s : ByteArray) (p : Nat) (h : p < s.size) (h2 : (s[p]'h).toNat < 128) : Utf8.decode s p = ((s[p]'h).toNat, 1) := by
  unfold Utf8.decode
  simp only [Nat.add_zero, get!_at s p h]
  rw [if_pos (by omega)]
theorem decode_high (s : ByteArray) (p : Nat) (h : p < s.size) (h2 : 128 ≤ (s[p]'h).toNat) : 128 ≤ (Utf8.decode s p).1 := by
  unfold Utf8.decode
  simp only [Nat.add_zero, get!_at s p h]
  rw [if_neg (by omega)]
  have hE : 128 ≤ Utf8.runeError := by decide
  repeat' split
  all_goals (try simp only [ge_iff_le, Bool.and_eq_true, decide_eq_true_eq] at *)
  all_goals first | exact hE | omega

theorem decode_dig (s : ByteArray) (p : Nat) (h : p < s.size) (h2 : isDig (s[p]'h) = true) : Utf8.decode s p = ((s[p]'h).toNat, 1) := by
  refine decode_low s p h ?_
  simp only [isDig, UInt8.le_iff_toNat_le, Bool.and_eq_true, decide_eq_true_eq] at h2
  have h2' : (s[p]'h).toNat ≤ 57 := h2.2
  omega
theorem decode_nodig (s : ByteArray) (p : Nat) (h : p < s.size) (h2 : isDig (s[p]'h) = false) : (Utf8.decode s p).1 < 48 ∨ 57 < (Utf8.decode s p).1 := by
  by_cases h3 : (s[p]'h).toNat < 128
  · rw [decode_low s p h h3]
    simp only [isDig, UInt8.le_iff_toNat_le, Bool.and_eq_false_iff, decide_eq_false_iff_not] at h2
    have e1 : (48 : UInt8).toNat = 48 := rfl
    have e2 : (57 : UInt8).toNat = 57 := rfl
    rw [e1, e2] at h2
    simp only []
    omega
  · have := decode_high s p h (by omega)
    omega

def nodig (x : Nat) : Bool := decide (x < 48) || decide (57 < x)

theorem idx_digits (s : ByteArray) : ∀ f pos, pos ≤ s.size → s.size ≤ pos + f → (0 ≤ Lib.idxFuncFrom nodig true s f pos ↔ ¬ (s.data.toList.drop pos).all isDig = true) := by
  intro f
  induction f with
  | zero =>
    intro pos hp hf
    have : s.data.toList.drop pos = [] := by
      apply List.drop_eq_nil_of_le; rw [← Lib.size_eq]; omega
    simp [Lib.idxFuncFrom, this]
  | succ f ih =>
    intro pos hp hf
    unfold Lib.idxFuncFrom
    by_cases h : pos < s.size
    · rw [if_pos h]
      have hl : pos < s.data.toList.length := by rw [← Lib.size_eq]; exact h
      have hd : s.data.toList.drop pos = s[pos] :: s.data.toList.drop (pos + 1) := by
        rw [List.drop_eq_getElem_cons hl]; rfl
      rw [hd]
      cases hg : isDig s[pos] with
      | true =>
        rw [decode_dig s pos h hg]
        have : nodig (s[pos]).toNat = false := by
          simp only [isDig, UInt8.le_iff_toNat_le, Bool.and_eq_true, decide_eq_true_eq] at hg
          obtain ⟨h1, h2⟩ := hg
          have h1' : 48 ≤ s[pos].toNat := h1
          have h2' : s[pos].toNat ≤ 57 := h2
          simp [nodig]; omega
        simp only [this]
        rw [if_neg (by simp)]
        rw [ih (pos + 1) (by omega) (by omega)]
        simp [hg]
      | false =>
        have := decode_nodig s pos h hg
        have hn : nodig (Utf8.decode s pos).1 = true := by simp [nodig]; omega
        rw [if_pos hn]
        simp [hg]
    · rw [if_neg h]
      have : s.data.toList.drop pos = [] := by
        apply List.drop_eq_nil_of_le; rw [← Lib.size_eq]; omega
      simp [this]

theorem digits_idx (s : ByteArray) : decide (0 ≤ Lib.idxFunc nodig true s) = !(s.data.toList.all isDig) := by
  have h := idx_digits s s.size 0 (by omega) (by omega)
  rw [List.drop_zero] at h
  unfold Lib.idxFunc
  cases hb : s.data.toList.all isDig with
  | true => rw [hb] at h; simpa using h
  | false => rw [hb] at h; simpa using h

/-! ### decimal.digits -/
theorem digits1_any (x : Nat) (hx : x ≤ 1114111) (w : World) : Calls Tryz.prog 109 (#[encR x] ++ #[]) w fun e w' => e = .returned (.bool (nodig x)) ∧ Below w.heap.size w w' := by
  show Calls Tryz.prog 109 #[.int .i32 (x : Int)] w _
  have hr : nodig x = (decide ((x : Int) < 48) || decide (57 < (x : Int))) := by
    unfold nodig; congr 1 <;> (apply decide_eq_decide.2; omega)
  rw [hr]
  by_cases h1 : (x : Int) < 48
  · go_enter Tryz.func109, Tryz.ntmps109
    go_wp2
    go_ret
    exact ⟨by simp [h1], Below.refl _ _⟩
  · have h1' : decide ((x : Int) < 48) = false := by simpa using h1
    by_cases h2 : 57 < (x : Int)
    · go_enter Tryz.func109, Tryz.ntmps109
      go_wp2
      go_ret
      exact ⟨by simp [h2], Below.refl _ _⟩
    · go_enter Tryz.func109, Tryz.ntmps109
      go_wp2
      go_ret
      exact ⟨by simp [h2, h1], Below.refl _ _⟩
theorem digits1_pays (w : World) : PredGrows Tryz.prog 109 #[] nodig w := fun W x hx _ => digits1_any x hx W
theorem digits1_enters : ∀ args w, (callFunc 109 args).run Tryz.prog w = .ok (.enter 109 args) w := enters_of Tryz.func109 (by kernel_rfl) rfl

def nodigN (x : Nat) : Bool := Nat.blt x 48 || Nat.blt 57 x
theorem all_dig : ∀ (s : List Nat), (∀ x ∈ s, x < 256) → (!((bs s).data.toList.all isDig)) = s.any nodigN := by
  intro s
  have e : (bs s).data.toList = s.map UInt8.ofNat := by simp [bs]
  rw [e]
  induction s with
  | nil => intro _; rfl
  | cons a s ih =>
    intro h
    have ha := h a (by simp)
    have := ih (by simp [bs]) (fun x hx => h x (by simp [hx]))
    simp only [List.map_cons, List.all_cons, List.any_cons, Bool.not_and, this]
    congr 1
    have e1 : (48 : UInt8).toNat = 48 := rfl
    have e2 : (57 : UInt8).toNat = 57 := rfl
    rw [Bool.eq_iff_iff]
    simp only [isDig, nodigN, UInt8.le_iff_toNat_le, UInt8.toNat_ofNat', Nat.mod_eq_of_lt ha, e1, e2, Bool.not_eq_true', Bool.and_eq_false_iff, decide_eq_false_iff_not, Bool.or_eq_true, Nat.blt_eq]
    omega

noncomputable def tiT : PT (Option TI) := PT.build 12 ((List.range 400).map (tiOf Tryz.prog))
noncomputable def fnT : PT Func := PT.build 12 Tryz.prog.funcs.toList
noncomputable def plainT : PT Bool := PT.build 12 ((List.range 400).map (plainOf Tryz.prog))
noncomputable def prims (f : FuncId) : Option (List AV → AH → Option (AV × AH)) :=
  cond (Nat.beq f 100) (some pIndexByte) (cond (Nat.beq f 129) (some pCompare) (cond (Nat.beq f 108) (some (pContains 109 nodigN)) none))
noncomputable def E : Env := envOf tiT fnT plainT (fun g => Nat.beq g 3) prims (fun f => Nat.beq f 104)
theorem noEscape_ok : ExtSame Tryz.prog 104 := ⟨_, Tryz.func104, by kernel_rfl, by kernel_rfl, by kernel_rfl, by kernel_rfl⟩
theorem E_ok : EnvOK Tryz.prog E := envOf_ok ⟨12, 400, rfl⟩ ⟨12, rfl⟩ ⟨12, 400, rfl⟩ fun f hf => by
  have e : f = 104 := by rw [← Nat.beq_eq]; exact hf
  subst e
  exact noEscape_ok
theorem prims_ok (N : Nat) : PrimOK Tryz.prog E N := by
  intro f p hp args H v H' h ρ w cargs hG hR hv
  have hp' : prims f = some p := hp
  unfold prims at hp'
  by_cases h1 : f = 100
  · subst h1
    have hp2 : pIndexByte = p := Option.some.inj hp'
    subst hp2
    exact pIndexByte_ok (fun s c W => Tryz.strings_IndexByte s c W) h hR hv
  · have e1 : Nat.beq f 100 = false := by rw [← Bool.not_eq_true, Nat.beq_eq]; exact h1
    rw [e1] at hp'
    by_cases h2 : f = 129
    · subst h2
      have hp2 : pCompare = p := Option.some.inj hp'
      subst hp2
      exact pCompare_ok (fun a b W => Tryz.strings_Compare a b W) h hR hv
    · have e2 : Nat.beq f 129 = false := by rw [← Bool.not_eq_true, Nat.beq_eq]; exact h2
      rw [e2] at hp'
      by_cases h3 : f = 108
      · subst h3
        have hp2 : pContains 109 nodigN = p := Option.some.inj hp'
        subst hp2
        refine pContains_ok (q := fun s => !(s.data.toList.all isDig)) all_dig (fun s W => ?_) h hR hv
        have hc := Tryz.strings_ContainsFunc_grows _ #[] digits1_enters nodig s W (digits1_pays W)
        rw [digits_idx] at hc
        exact hc
      · have e3 : Nat.beq f 108 = false := by rw [← Bool.not_eq_true, Nat.beq_eq]; exact h3
        rw [e3] at hp'
        cases hp'
noncomputable def H0m : PT AB := match PT.set 64 .lf 3 (some ⟨tabAV .u64 Lib.pow10Tab, false, false, [], none⟩) with | some t => t | none => .lf
noncomputable def H0 : AH := ⟨H0m, 1000⟩
theorem H0m_get (m : Nat) : H0m.get m = if m = 3 then some ⟨tabAV .u64 Lib.pow10Tab, false, false, [], none⟩ else none := by
  have h := PT.get_set 64 .lf H0m 3 (some ⟨tabAV .u64 Lib.pow10Tab, false, false, [], none⟩) rfl m
  rw [h, PT.get_lf]
noncomputable def call (f : FuncId) (args : List AV) : Option (AV × AH) := callN E (effO E) (readsO E) (mk E) 100000 f args H0
theorem call_true {f : FuncId} {args : List AV} {cargs : Array Value} {W : World} (hL : LaidW W) (hv : ∀ ρ, VRs ρ args cargs.toList) (h : isTrue (call f args) = true) :
    Calls Tryz.prog f cargs W fun e w' => e = .returned (.bool true) ∧ Below W.heap.size W w' := by
  have hR := start_tab (K := 1000) hL.pow10 (g := 3) (by kernel_rfl) (by decide) H0m_get (by decide)
  refine law_true (machine_ok E_ok (prims_ok _) 100000) ?_ hR (hv _) h
  intro g hg
  have : g = 3 := by rw [← Nat.beq_eq]; exact hg
  subst this
  exact ⟨_, if_pos rfl⟩
end Go.Proofs.YtofpjpeededndaaGreatDoorX
