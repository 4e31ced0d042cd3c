/- CONTRACTS of the functions of package decimal that the print does not take (function values; errors of strconv), over the shelf's contracts; and what the listed variables say of a world ('LaidW'). -/
import Derived.Test.YthimiidnbnlemaaDoorNumberShiftShelf
import Derived.Test.YthimiidnbnlemaaDoorNumberShiftWords
import Derived.WalkKit
import Derived.WalkSpells
import Derived.WalkLawsBesides
import Derived.Deep.QuietTactic
import Derived.BigQuiet
import Derived.Deep.RegionWith
set_option linter.unusedVariables false
set_option linter.unusedSimpArgs false
namespace Go.Proofs.YthimiidnbnlemaaDoorX
open Go.RowKit Go.Proofs.YthimiidnbnlemaaDoorW.PrintWords Go.Shelf
theorem bne_nil_ {α : Type} [BEq α] (l : List α) : (l != []) = !l.isEmpty := by cases l <;> rfl
def isDig (c : UInt8) : Bool := 48 ≤ c && c ≤ 57
def digitsL (l : List UInt8) : Bool := !l.isEmpty && l.all isDig
theorem get!_at (s : ByteArray) (p : Nat) (h : p < s.size) : s.get! p = s[p] := by
  show s.data[p]! = s.data[p]
  exact getElem!_pos s.data p h
theorem decode_low (s : ByteArray) (p : Nat) (h : p < s.size) (h2 : (s[p]'h).toNat < 128) : Utf8.decode s p = ((s[p]'h).toNat, 1) := by
  unfold Utf8.decode
  simp only [Nat.add_zero, get!_at s p h]
  rw [if_pos (by omega)]
theorem decode_high (s : ByteArray) (p : Nat) (h : p < s.size) (h2 : 128 ≤ (s[p]'h).toNat) : 128 ≤ (Utf8.decode s p).1 := by
  unfold Utf8.decode
  simp only [Nat.add_zero, get!_at s p h]
  rw [if_neg (by omega)]
  have hE : 128 ≤ Utf8.runeError := by decide
  repeat' split
  all_goals (try simp only [ge_iff_le, Bool.and_eq_true, decide_eq_true_eq] at *)
  all_goals first | exact hE | omega
theorem decode_dig (s : ByteArray) (p : Nat) (h : p < s.size) (h2 : isDig (s[p]'h) = true) : Utf8.decode s p = ((s[p]'h).toNat, 1) := by
  refine decode_low s p h ?_
  simp only [isDig, UInt8.le_iff_toNat_le, Bool.and_eq_true, decide_eq_true_eq] at h2
  have h2' : (s[p]'h).toNat ≤ 57 := h2.2
  omega
theorem decode_nodig (s : ByteArray) (p : Nat) (h : p < s.size) (h2 : isDig (s[p]'h) = false) : (Utf8.decode s p).1 < 48 ∨ 57 < (Utf8.decode s p).1 := by
  by_cases h3 : (s[p]'h).toNat < 128
  · rw [decode_low s p h h3]
    simp only [isDig, UInt8.le_iff_toNat_le, Bool.and_eq_false_iff, decide_eq_false_iff_not] at h2
    have e1 : (48 : UInt8).toNat = 48 := rfl
    have e2 : (57 : UInt8).toNat = 57 := rfl
    rw [e1, e2] at h2
    simp only []
    omega
  · have := decode_high s p h (by omega)
    omega
def nodig (x : Nat) : Bool := decide (x < 48) || decide (57 < x)
theorem idx_digits (s : ByteArray) : ∀ f pos, pos ≤ s.size → s.size ≤ pos + f → (0 ≤ Lib.idxFuncFrom nodig true s f pos ↔ ¬ (s.data.toList.drop pos).all isDig = true) := by
  intro f
  induction f with
  | zero =>
    intro pos hp hf
    have : s.data.toList.drop pos = [] := by
      apply List.drop_eq_nil_of_le; rw [← Lib.size_eq]; omega
    simp [Lib.idxFuncFrom, this]
  | succ f ih =>
    intro pos hp hf
    unfold Lib.idxFuncFrom
    by_cases h : pos < s.size
    · rw [if_pos h]
      have hl : pos < s.data.toList.length := by rw [← Lib.size_eq]; exact h
      have hd : s.data.toList.drop pos = s[pos] :: s.data.toList.drop (pos + 1) := by
        rw [List.drop_eq_getElem_cons hl]; rfl
      rw [hd]
      cases hg : isDig s[pos] with
      | true =>
        rw [decode_dig s pos h hg]
        have : nodig (s[pos]).toNat = false := by
          simp only [isDig, UInt8.le_iff_toNat_le, Bool.and_eq_true, decide_eq_true_eq] at hg
          obtain ⟨h1, h2⟩ := hg
          have h1' : 48 ≤ s[pos].toNat := h1
          have h2' : s[pos].toNat ≤ 57 := h2
          simp [nodig]; omega
        simp only [this]
        rw [if_neg (by simp)]
        rw [ih (pos + 1) (by omega) (by omega)]
        simp [hg]
      | false =>
        have := decode_nodig s pos h hg
        have hn : nodig (Utf8.decode s pos).1 = true := by simp [nodig]; omega
        rw [if_pos hn]
        simp [hg]
    · rw [if_neg h]
      have : s.data.toList.drop pos = [] := by
        apply List.drop_eq_nil_of_le; rw [← Lib.size_eq]; omega
      simp [this]
theorem digits_idx (s : ByteArray) : decide (0 ≤ Lib.idxFunc nodig true s) = !(s.data.toList.all isDig) := by
  have h := idx_digits s s.size 0 (by omega) (by omega)
  rw [List.drop_zero] at h
  unfold Lib.idxFunc
  cases hb : s.data.toList.all isDig with
  | true => rw [hb] at h; simpa using h
  | false => rw [hb] at h; simpa using h
theorem digits1_any (x : Nat) (hx : x ≤ 1114111) (w : World) : Calls Tryd.prog 45 (#[encR x] ++ #[]) w fun e w' => e = .returned (.bool (nodig x)) ∧ Below w.heap.size w w' := by
  show Calls Tryd.prog 45 #[.int .i32 (x : Int)] w _
  have hr : nodig x = (decide ((x : Int) < 48) || decide (57 < (x : Int))) := by
    unfold nodig; congr 1 <;> (apply decide_eq_decide.2; omega)
  rw [hr]
  by_cases h1 : (x : Int) < 48
  · go_enter Tryd.func45, Tryd.ntmps45
    go_wp2
    go_ret
    exact ⟨by simp [h1], Below.refl _ _⟩
  · have h1' : decide ((x : Int) < 48) = false := by simpa using h1
    by_cases h2 : 57 < (x : Int)
    · go_enter Tryd.func45, Tryd.ntmps45
      go_wp2
      go_ret
      exact ⟨by simp [h2], Below.refl _ _⟩
    · go_enter Tryd.func45, Tryd.ntmps45
      go_wp2
      go_ret
      exact ⟨by simp [h2, h1], Below.refl _ _⟩
theorem digits1_pays (w : World) : PredGrows Tryd.prog 45 #[] nodig w := fun W x hx _ => digits1_any x hx W
theorem digits1_enters : ∀ args w, (callFunc 45 args).run Tryd.prog w = .ok (.enter 45 args) w := enters_of Tryd.func45 (by kernel_rfl) rfl
def decimal_digits.f (a0 : ByteArray) : Option Bool := some (digitsL a0.data.toList)
theorem decimal_digits.calls (a0 : ByteArray) (r : Bool) (w : World) (h : decimal_digits.f a0 = some r) :
    Calls Tryd.prog 27 #[.string a0] w fun e w' => e = .returned (.bool r) ∧ Below w.heap.size w w' := by
  obtain rfl : digitsL a0.data.toList = r := Option.some.inj h
  have hc := Tryd.strings_ContainsFunc_grows _ #[] digits1_enters nodig a0 w (digits1_pays w)
  rw [digits_idx] at hc
  by_cases h0 : a0.data.toList = []
  · have e0 : a0.toList = [] := by rw [Lib.toList_data]; exact h0
    have hd : digitsL a0.data.toList = false := by simp [digitsL, h0]
    rw [hd]
    have Hd := Lib.hid hc; clear hc
    clear hd h0
    go_enter Tryd.func27, Tryd.ntmps27
    go_wp2
    go_ret
    exact ⟨rfl, Below.refl _ _⟩
  · have e0 : a0.toList.isEmpty = false := by rw [Lib.toList_data]; simpa using h0
    have hd : digitsL a0.data.toList = a0.data.toList.all isDig := by
      rw [Lib.toList_data] at e0
      unfold digitsL
      rw [e0]
      rfl
    rw [hd]
    generalize hb : a0.data.toList.all isDig = b at *
    clear hd h0 hb
    go_enter Tryd.func27, Tryd.ntmps27
    go_wp2_with (go_at_call 44; refine hc.mono ?_; rintro e w' ⟨rfl, hb⟩)
    go_ret
    exact ⟨by simp, by assumption⟩
def cutMinus (l : List UInt8) : List UInt8 × Bool := match l with
  | 45 :: r => (r, true)
  | l => (l, false)
def rightL (l : List UInt8) : Bool := digitsL (cutMinus l).1 && ((cutMinus l).1.head? != some 48 || ((cutMinus l).1 == [48] && !(cutMinus l).2))
theorem cutMinus_eq (l : List UInt8) : (Lib.trimPrefix l [45], Lib.hasPrefix l [45]) = cutMinus l := by
  unfold cutMinus
  split
  · simp [Lib.trimPrefix, Lib.hasPrefix]
  · rename_i h
    cases l with
    | nil => simp [Lib.trimPrefix, Lib.hasPrefix]
    | cons a r =>
      have ha : a ≠ 45 := fun e => h r (by rw [e])
      have : (45 : UInt8) ≠ a := fun e => ha e.symm
      simp [Lib.trimPrefix, Lib.hasPrefix, List.isPrefixOf, this]
theorem head_of_digits (l : List UInt8) (h : digitsL l = true) : 0 < l.length := by
  cases l with
  | nil => simp [digitsL] at h
  | cons a r => simp
theorem mk_head (l : List UInt8) (h : 0 < (⟨l.toArray⟩ : ByteArray).size) : l.head? = some ((⟨l.toArray⟩ : ByteArray)[0]'h) := by
  cases l with
  | nil => exact absurd h (by decide)
  | cons a r => rfl
def decimal_Right.f (a0 : ByteArray) : Option Bool := some (rightL a0.data.toList)
set_option maxHeartbeats 400000 in
theorem decimal_Right.calls (a0 : ByteArray) (r : Bool) (w : World) (h : decimal_Right.f a0 = some r) :
    Calls Tryd.prog 12 #[.string a0] w fun e w' => e = .returned (.bool r) ∧ Below w.heap.size w w' := by
  obtain rfl : rightL a0.data.toList = r := Option.some.inj h
  clear h
  have hc := Tryd.strings_CutPrefix a0 ⟨#[45]⟩ w
  have e1 : Lib.trimPrefix a0.data.toList [45] = (cutMinus a0.data.toList).1 := by rw [← cutMinus_eq]
  have e2 : Lib.hasPrefix a0.data.toList [45] = (cutMinus a0.data.toList).2 := by rw [← cutMinus_eq]
  simp only [] at hc
  rw [e1, e2] at hc
  clear e1 e2
  unfold rightL
  generalize (cutMinus a0.data.toList).1 = l at *
  generalize (cutMinus a0.data.toList).2 = neg at *
  have hd := fun W => decimal_digits.calls ⟨l.toArray⟩ (digitsL l) W rfl
  cases hl : digitsL l with
  | false =>
    rw [hl] at hd
    clear hl
    go_enter Tryd.func12, Tryd.ntmps12
    go_wp2_with (first | (go_at_call 22; refine hc.mono ?_; rintro e w' ⟨rfl, rfl⟩) | (go_at_call 27; refine (hd _).mono ?_; rintro e w' ⟨rfl, hb⟩))
    go_ret
    exact ⟨by simp, by assumption⟩
  | true =>
    rw [hl] at hd
    have h0 : 0 < (⟨l.toArray⟩ : ByteArray).size := head_of_digits l hl
    have hh := mk_head l h0
    have hS : (⟨l.toArray⟩ : ByteArray).toList = l := by rw [Lib.toList_data]
    clear hl
    rw [hh]
    by_cases c0 : (⟨l.toArray⟩ : ByteArray)[0]'h0 = 48
    · have c1 : ((((⟨l.toArray⟩ : ByteArray)[0]'h0).toNat : Int) != 48) = false := by rw [c0]; rfl
      rw [c0]
      have HH := Lib.hid hh; clear hh
      have HS := Lib.hid hS
      generalize hx : (⟨l.toArray⟩ : ByteArray) = s1 at *
      have HX := Lib.hid hx; clear hx
      clear c0
      by_cases c2 : l = [48]
      · have c3 : (s1.toList == [48]) = true := by rw [HS.out, c2]; rfl
        have C2 := Lib.hid c2; clear c2 hS
        cases neg
        · go_enter Tryd.func12, Tryd.ntmps12
          go_wp2_with (first | (go_at_call 22; refine hc.mono ?_; rintro e w' ⟨rfl, rfl⟩) | (go_at_call 27; refine (hd _).mono ?_; rintro e w' ⟨rfl, hb⟩))
          go_ret
          exact ⟨by rw [C2.out]; simp, by assumption⟩
        · go_enter Tryd.func12, Tryd.ntmps12
          go_wp2_with (first | (go_at_call 22; refine hc.mono ?_; rintro e w' ⟨rfl, rfl⟩) | (go_at_call 27; refine (hd _).mono ?_; rintro e w' ⟨rfl, hb⟩))
          go_ret
          exact ⟨by rw [C2.out]; simp, by assumption⟩
      · have c3 : (s1.toList == [48]) = false := by rw [HS.out]; simpa using c2
        have C2 := Lib.hid c2; clear c2 hS
        go_enter Tryd.func12, Tryd.ntmps12
        go_wp2_with (first | (go_at_call 22; refine hc.mono ?_; rintro e w' ⟨rfl, rfl⟩) | (go_at_call 27; refine (hd _).mono ?_; rintro e w' ⟨rfl, hb⟩))
        go_ret
        exact ⟨by simp [C2.out], by assumption⟩
    · have c1 : ((((⟨l.toArray⟩ : ByteArray)[0]'h0).toNat : Int) != 48) = true := by
        have : ((⟨l.toArray⟩ : ByteArray)[0]'h0).toNat ≠ 48 := fun e => c0 (UInt8.toNat_inj.1 e)
        simp; omega
      have C0 := Lib.hid c0; clear c0
      have HH := Lib.hid hh; clear hh
      clear hS
      generalize hx : (⟨l.toArray⟩ : ByteArray) = s1 at *
      have HX := Lib.hid hx; clear hx
      go_enter Tryd.func12, Tryd.ntmps12
      go_wp2_with (first | (go_at_call 22; refine hc.mono ?_; rintro e w' ⟨rfl, rfl⟩) | (go_at_call 27; refine (hd _).mono ?_; rintro e w' ⟨rfl, hb⟩))
      go_ret
      exact ⟨by have := C0.out; simp [this], by assumption⟩
structure LaidW (w : World) : Prop where
  one : True
  pow10 : Lib.TabIs Tryd.prog w "internal/strconv.uint64pow10" .u64 Lib.pow10Tab
  errS : ∃ tp p, w.var? Tryd.prog "strconv.ErrSyntax" = some #[.iface tp p]
  errR : ∃ tp p, w.var? Tryd.prog "strconv.ErrRange" = some #[.iface tp p]
theorem var_below {n : String} {cs : Array Value} {w w' : World} (hv : w.var? Tryd.prog n = some cs) (hb : Below w.heap.size w w') : w'.var? Tryd.prog n = some cs := by
  unfold World.var? at hv ⊢
  cases hg : Tryd.prog.globalNamed n with
  | none => rw [hg] at hv; simp at hv
  | some g =>
    rw [hg] at hv
    simp only [Option.bind_some] at hv ⊢
    by_cases hlt : g < w.heap.size
    · rw [hb.block g hlt]; exact hv
    · have : w.heap[g]? = none := by simp; omega
      rw [this] at hv; simp at hv
theorem LaidW.below {w w' : World} (h : LaidW w) (hb : Below w.heap.size w w') : LaidW w' where
  one := trivial
  pow10 := var_below h.pow10 hb
  errS := by obtain ⟨tp, p, hv⟩ := h.errS; exact ⟨tp, p, var_below hv hb⟩
  errR := by obtain ⟨tp, p, hv⟩ := h.errR; exact ⟨tp, p, var_below hv hb⟩
theorem LaidW.drewN {w : World} (h : LaidW w) (n : Nat) : LaidW (w.drewN n) := h.below (Drawn0.below ⟨⟨n, rfl⟩⟩)
theorem LaidW.drew {w : World} (h : LaidW w) : LaidW w.drew := h.drewN 1
def strings_TrimLeft.f (a0 a1 : ByteArray) : Option ByteArray := match a1.data.toList with
  | [c] => if c.toNat < 128 then some ⟨(a0.data.toList.dropWhile (· == c)).toArray⟩ else none
  | _ => none
theorem one_byte (a : ByteArray) (c : UInt8) (h : a.data.toList = [c]) : a = ⟨#[c]⟩ := by
  obtain ⟨⟨l⟩⟩ := a
  simp at h
  rw [h]
theorem strings_TrimLeft.calls (a0 a1 r : ByteArray) (w : World) (h : strings_TrimLeft.f a0 a1 = some r) :
    Calls Tryd.prog 38 #[.string a0, .string a1] w fun e w' => e = .returned (.string r) ∧ Drawn0 w w' := by
  unfold strings_TrimLeft.f at h
  split at h
  · rename_i c hc
    split at h
    · rename_i hlt
      obtain rfl := Option.some.inj h
      obtain rfl := one_byte a1 c hc
      exact (Tryd.strings_TrimLeft_one a0 c hlt w).mono fun e w' ⟨he, hw⟩ => ⟨he, by subst hw; exact Drawn0.refl _⟩
    · exact absurd h (by simp)
  · exact absurd h (by simp)
def strings_TrimRight.f (a0 a1 : ByteArray) : Option ByteArray := match a1.data.toList with
  | [c] => if c.toNat < 128 ∧ a0.size ≤ 9223372036854775807 then some ⟨(a0.data.toList.reverse.dropWhile (· == c)).reverse.toArray⟩ else none
  | _ => none
theorem strings_TrimRight.calls (a0 a1 r : ByteArray) (w : World) (h : strings_TrimRight.f a0 a1 = some r) :
    Calls Tryd.prog 39 #[.string a0, .string a1] w fun e w' => e = .returned (.string r) ∧ Drawn0 w w' := by
  unfold strings_TrimRight.f at h
  split at h
  · rename_i c hc
    split at h
    · rename_i hlt
      obtain rfl := Option.some.inj h
      obtain rfl := one_byte a1 c hc
      exact (Tryd.strings_TrimRight_one a0 c hlt.1 w hlt.2).mono fun e w' ⟨he, hw⟩ => ⟨he, by subst hw; exact Drawn0.refl _⟩
    · exact absurd h (by simp)
  · exact absurd h (by simp)
def strings_Compare.f (a0 a1 : ByteArray) : Option Int := some (Lib.compareBytes a0.data.toList a1.data.toList)
theorem strings_Compare.calls (a0 a1 : ByteArray) (r : Int) (w : World) (h : strings_Compare.f a0 a1 = some r) :
    Calls Tryd.prog 43 #[.string a0, .string a1] w fun e w' => e = .returned (.int .i64 r) ∧ Drawn0 w w' := by
  obtain rfl := Option.some.inj h
  exact (Tryd.strings_Compare a0 a1 w).mono fun e w' ⟨he, hw⟩ => ⟨he, by subst hw; exact Drawn0.refl _⟩
def intL (l : List UInt8) : Int × Bool := match Lib.atoiAll l with
  | .ok v => if rightL l = true ∧ -1000000 ≤ v ∧ v ≤ 1000000 then (v, true) else (0, false)
  | _ => (0, false)
def decimal_Int.f (a0 : ByteArray) : Option (Int × Bool) := if a0.size ≤ 281474976710656 then some (intL a0.data.toList) else none
set_option maxHeartbeats 400000 in
theorem Int_ok (a0 : ByteArray) (v : Int) (w : World) (hs : a0.size ≤ 281474976710656) (hv : Lib.atoiAll a0.data.toList = .ok v) :
    Calls Tryd.prog 15 #[.string a0] w fun e w' => e = .returned (.tuple #[.int .i64 (intL a0.data.toList).1, .bool (intL a0.data.toList).2]) ∧ Below w.heap.size w w' := by
  have hA : Calls Tryd.prog 31 #[.string a0] w fun e w' => e = .returned (.tuple #[.int .i64 v, .nilIface]) ∧ Below w.heap.size w w' :=
    (Tryd.strconv_Atoi_ok a0 (by omega) v hv w).mono fun e w' ⟨he, hw⟩ => ⟨he, by
      rcases hw with rfl | ⟨t, rfl⟩
      · exact Below.refl _ _
      · exact Lib.bytesWorld_below _ _ _⟩
  have hR := fun W => decimal_Right.calls a0 (rightL a0.data.toList) W rfl
  unfold intL
  rw [hv]
  simp only []
  clear hv
  generalize rightL a0.data.toList = rt at *
  cases rt with
  | false =>
    rw [if_neg (by simp)]
    go_enter Tryd.func15, Tryd.ntmps15
    go_wp2_with (first | (go_at_call 31; refine hA.mono ?_; rintro e w1 ⟨rfl, hb1⟩) | (go_at_call 12; refine (hR _).mono ?_; rintro e w' ⟨rfl, hb⟩))
    go_ret2
    exact ⟨rfl, below_step hb1 hb⟩
  | true =>
    by_cases h1 : v < -1000000
    · rw [if_neg (fun h => by omega)]
      go_enter Tryd.func15, Tryd.ntmps15
      go_wp2_with (first | (go_at_call 31; refine hA.mono ?_; rintro e w1 ⟨rfl, hb1⟩) | (go_at_call 12; refine (hR _).mono ?_; rintro e w' ⟨rfl, hb⟩))
      go_ret2
      exact ⟨rfl, below_step hb1 hb⟩
    · by_cases h2 : 1000000 < v
      · rw [if_neg (fun h => by omega)]
        go_enter Tryd.func15, Tryd.ntmps15
        go_wp2_with (first | (go_at_call 31; refine hA.mono ?_; rintro e w1 ⟨rfl, hb1⟩) | (go_at_call 12; refine (hR _).mono ?_; rintro e w' ⟨rfl, hb⟩))
        go_ret2
        exact ⟨rfl, below_step hb1 hb⟩
      · rw [if_pos ⟨rfl, by omega, by omega⟩]
        go_enter Tryd.func15, Tryd.ntmps15
        go_wp2_with (first | (go_at_call 31; refine hA.mono ?_; rintro e w1 ⟨rfl, hb1⟩) | (go_at_call 12; refine (hR _).mono ?_; rintro e w' ⟨rfl, hb⟩))
        go_ret2
        exact ⟨rfl, below_step hb1 hb⟩
set_option maxHeartbeats 400000 in
theorem Int_err (a0 : ByteArray) (x : Int) (T : TypeId) (w : World) (hv : ∀ v, Lib.atoiAll a0.data.toList ≠ .ok v)
    (hA : Calls Tryd.prog 31 #[.string a0] w fun e w' => ∃ N : Nat, e = .returned (.tuple #[.int .i64 x, .iface T (.pointer (some ⟨N, 0, none⟩))]) ∧ Below w.heap.size w w') :
    Calls Tryd.prog 15 #[.string a0] w fun e w' => e = .returned (.tuple #[.int .i64 (intL a0.data.toList).1, .bool (intL a0.data.toList).2]) ∧ Below w.heap.size w w' := by
  have hR := fun W => decimal_Right.calls a0 (rightL a0.data.toList) W rfl
  have hI : intL a0.data.toList = (0, false) := by
    unfold intL
    split
    · rename_i v h; exact absurd h (hv v)
    · rfl
  rw [hI]
  clear hI hv
  generalize rightL a0.data.toList = rt at *
  cases rt with
  | false =>
    go_enter Tryd.func15, Tryd.ntmps15
    go_wp2_with (first | (go_at_call 31; refine hA.mono ?_; rintro e w1 ⟨N, rfl, hb1⟩) | (go_at_call 12; refine (hR _).mono ?_; rintro e w' ⟨rfl, hb⟩))
    go_ret2
    exact ⟨rfl, below_step hb1 hb⟩
  | true =>
    go_enter Tryd.func15, Tryd.ntmps15
    go_wp2_with (first | (go_at_call 31; refine hA.mono ?_; rintro e w1 ⟨N, rfl, hb1⟩) | (go_at_call 12; refine (hR _).mono ?_; rintro e w' ⟨rfl, hb⟩))
    go_ret2
    exact ⟨rfl, below_step hb1 hb⟩
theorem decimal_Int.calls (a0 : ByteArray) (r1 : Int) (r2 : Bool) (w : World) (hL : LaidW w) (h : decimal_Int.f a0 = some (r1, r2)) :
    Calls Tryd.prog 15 #[.string a0] w fun e w' => e = .returned (.tuple #[.int .i64 r1, .bool r2]) ∧ Below w.heap.size w w' := by
  unfold decimal_Int.f at h
  split at h
  · rename_i hsz
    have h := Option.some.inj h
    have h1 : (intL a0.data.toList).1 = r1 := by rw [h]
    have h2 : (intL a0.data.toList).2 = r2 := by rw [h]
    rw [← h1, ← h2]
    by_cases hv : ∃ v, Lib.atoiAll a0.data.toList = .ok v
    · obtain ⟨v, hv⟩ := hv
      exact Int_ok a0 v w hsz hv
    · by_cases hr : Lib.atoiAll a0.data.toList = .range
      · obtain ⟨tp, p, hS⟩ := hL.errR
        exact Int_err a0 _ _ w (fun v e => hv ⟨v, e⟩) ((Tryd.strconv_Atoi_range_var a0 hsz hr tp p w hS).mono fun e w' ⟨N, he, _, _, hb⟩ => ⟨N, he, hb⟩)
      · have hs : Lib.atoiAll a0.data.toList = Lib.atoiAll [] := by
          revert hv hr
          generalize Lib.atoiAll a0.data.toList = z
          intro hv hr
          cases z
          all_goals first | rfl | exact absurd rfl hr | exact absurd ⟨_, rfl⟩ hv
        obtain ⟨tp, p, hS⟩ := hL.errS
        exact Int_err a0 _ _ w (fun v e => hv ⟨v, e⟩) ((Tryd.strconv_Atoi_syntax_var a0 hsz hs tp p w hS).mono fun e w' ⟨N, he, _, _, hb⟩ => ⟨N, he, hb⟩)
  · exact absurd h (by simp)
theorem below_grow_ {B : Nat} {w W : World} (h : Below B w W) (hB : B ≤ W.heap.size) (os : Array Obj) : Below B w (Sort.grow W os) where
  os := h.os
  tape := h.tape
  output := h.output
  size := by have := h.size; simp [Sort.grow]; omega
  block := fun i hi => by
    rw [← h.block i hi]
    simp [Sort.grow, Array.getElem?_append, Nat.lt_of_lt_of_le hi hB]
def strconv_Itoa.f (a0 : Int) : Option ByteArray := if -9223372036854775808 ≤ a0 ∧ a0 ≤ 9223372036854775807 then some ⟨(Lib.itoa a0).toArray⟩ else none
theorem strconv_Itoa.calls (a0 : Int) (r : ByteArray) (w : World) (hL : LaidW w) (h : strconv_Itoa.f a0 = some r) :
    Calls Tryd.prog 40 #[.int .i64 a0] w fun e w' => e = .returned (.string r) ∧ Below w.heap.size w w' := by
  unfold strconv_Itoa.f at h
  split at h
  · rename_i hn
    obtain rfl := Option.some.inj h
    exact (Tryd.strconv_Itoa a0 hn.1 hn.2 w hL.pow10).mono fun e w' ⟨he, k, os, hw⟩ => ⟨he, by subst hw; exact below_grow_ (Drawn0.below ⟨⟨k, rfl⟩⟩) (Drawn0.below ⟨⟨k, rfl⟩⟩ : Below _ w (w.drewN k)).size os⟩
  · exact absurd h (by simp)
def strings_Repeat.f (a0 : ByteArray) (a1 : Int) : Option ByteArray := if 0 ≤ a1 ∧ a1 ≤ 1000000 ∧ a0.size ≤ 100000000 then some ⟨(Lib.repeatL a0.data.toList a1.toNat).toArray⟩ else none
theorem strings_Repeat.calls (a0 : ByteArray) (a1 : Int) (r : ByteArray) (w : World) (h : strings_Repeat.f a0 a1 = some r) :
    Calls Tryd.prog 80 #[.string a0, .int .i64 a1] w fun e w' => e = .returned (.string r) ∧ Below w.heap.size w w' := by
  unfold strings_Repeat.f at h
  split at h
  · rename_i hn
    obtain rfl := Option.some.inj h
    obtain ⟨n, rfl⟩ := Int.eq_ofNat_of_zero_le hn.1
    have h1 : a0.size * n ≤ 100000000 * 1000000 := Nat.mul_le_mul hn.2.2 (by omega)
    exact Tryd.strings_Repeat a0 n w (by omega) (by omega)
  · exact absurd h (by simp)
end Go.Proofs.YthimiidnbnlemaaDoorX
