/- PLAIN LAWS of the printed functions of package number: what Read comes to, on lists of bytes. -/
import Derived.Test.YthimiidnbnlemaaDoorNumberShiftPDecI
import Derived.Test.YthimiidnbnlemaaDoorNumberShiftPx6
import Derived.Test.YthimiidnbnlemaaDoorNumberShiftPx7
import Derived.Test.YthimiidnbnlemaaDoorNumberShiftPx8
import Derived.Test.YthimiidnbnlemaaDoorNumberShiftPx9
set_option linter.unusedVariables false
set_option linter.unusedSimpArgs false
namespace Go.Proofs.YthimiidnbnlemaaDoorD
open Go.RowKit Go.Proofs.YthimiidnbnlemaaDoorX Go.Proofs.YthimiidnbnlemaaDoor.P Go.Proofs.YthimiidnbnlemaaDoorW.PrintWords Go.Proofs.YthimiidnbnlemaaDoorW.PrintLast Go.Proofs.YthimiidnbnlemaaDoorW.PrintMore
theorem obi {α β : Type} (a : α) (f : α → Option β) : (some a).bind f = f a := (Option.bind_some a f).trans (Eq.refl _)
def mk (l : List UInt8) : ByteArray := ⟨l.toArray⟩
theorem mk_list (l : List UInt8) : (mk l).data.toList = l := rfl
theorem mk_size (l : List UInt8) : (mk l).size = l.length := by rw [Lib.size_eq]; rfl
theorem mk_toList (l : List UInt8) : (mk l).toList = l := by rw [Lib.toList_data]; rfl
theorem mk_append (a b : List UInt8) : mk a ++ mk b = mk (a ++ b) := by
  apply of_list
  rw [mk_list]
  simp [mk]
theorem mk_drop (l : List UInt8) (n : Nat) : (mk l).extract n (mk l).size = mk (l.drop n) := by
  apply of_list
  rw [Lib.extract_data, mk_list, mk_list, mk_size, List.take_of_length_le (by simp)]
theorem mk_take (l : List UInt8) (n : Nat) : (mk l).extract 0 n = mk (l.take n) := by
  apply of_list
  rw [Lib.extract_data, mk_list, mk_list]; simp
theorem bt_mk (l : List UInt8) (n : Nat) (h : n < l.length) : bt (mk l) (n : Int) = ((l[n]'h).toNat : Int) := bt_eq (mk l) n h
def runL (l : List UInt8) : List UInt8 × List UInt8 := (l.takeWhile isDig, l.dropWhile isDig)
def signL (l : List UInt8) : Bool × List UInt8 := match l with
  | 45 :: r => (true, r)
  | 43 :: r => (false, r)
  | l => (false, l)
def powL (l : List UInt8) : Option Int := match l with
  | [] => some 0
  | c :: r => if c = 101 ∨ c = 69 then
      let g := signL r; let d := runL g.2
      if d.1 ≠ [] ∧ d.2 = [] then some (if g.1 = true then -((val d.1 : Nat) : Int) else ((val d.1 : Nat) : Int)) else none
    else none
structure Pieces where
  neg : Bool
  whole : List UInt8
  part : List UInt8
  exp : Int
def restL (neg : Bool) (whole part s : List UInt8) : Option Pieces := match powL s with
  | some e => if whole ++ part = [] then none else some ⟨neg, whole, part, e⟩
  | none => none
def readL (l : List UInt8) : Option Pieces :=
  let g := signL l; let w := runL g.2
  match w.2 with
  | 46 :: t => let p := runL t; if p.1 = [] then none else restL g.1 w.1 p.1 p.2
  | s => restL g.1 w.1 [] s
def numP (p : Pieces) : Bool × ByteArray × ByteArray :=
  let d := (p.whole ++ p.part).dropWhile (· == 48)
  if d = [] then (p.neg, mk [], mk []) else
    let short := (d.reverse.dropWhile (· == 48)).reverse
    (p.neg, mk short, S (p.exp + ((d.length : Int) - (short.length : Int) - (p.part.length : Int))))
def readV (l : List UInt8) : Bool × ByteArray × ByteArray × Bool := match readL l with
  | some p => ((numP p).1, (numP p).2.1, (numP p).2.2, true)
  | none => (false, mk [], mk [], false)
theorem run_take (l : List UInt8) : ∀ n, n ≤ l.length → (l.take n).all isDig = true → (∀ h : n < l.length, isDig l[n] = false) → l.take n = l.takeWhile isDig ∧ l.drop n = l.dropWhile isDig := by
  induction l with
  | nil => intro n hn _ _; simp at hn; subst hn; simp
  | cons c r ih =>
    intro n hn ha hb
    cases n with
    | zero =>
      have := hb (by simp)
      simp at this
      simp [this]
    | succ n =>
      simp only [List.take_succ_cons, List.all_cons, Bool.and_eq_true] at ha
      have := ih n (by simpa using hn) ha.2 (fun h => by have h2 := hb (by simp; omega); rw [List.getElem_cons_succ] at h2; exact h2)
      simp [ha.1, this.1, this.2]
theorem run_go (l : List UInt8) (hl : l.length ≤ 1000000000) : ∀ (d k i : Nat), d < k → l.length < i + d → i ≤ l.length → (l.take i).all isDig = true →
    number_run.l0 k (mk l) (i : Int) = some (mk (runL l).1, mk (runL l).2) := by
  intro d
  induction d with
  | zero => intro k i hk hd hi; omega
  | succ d ih =>
    intro k i hk hd hi ha
    obtain ⟨k, rfl⟩ : ∃ m, k = m + 1 := ⟨k - 1, by omega⟩
    have fin : (∀ h : i < l.length, isDig l[i] = false) → (if (i : Int) ≤ ((mk l).size : Int) then (some ((mk l).extract 0 (i : Int).toNat, (mk l).extract (i : Int).toNat (mk l).size)) else (none)) = some (mk (runL l).1, mk (runL l).2) := by
      intro hb
      have := run_take l i hi ha hb
      rw [if_pos (by rw [mk_size]; omega), show (i : Int).toNat = i by omega, mk_take, mk_drop, this.1, this.2]
      rfl
    simp only [number_run.l0]
    by_cases h : i < l.length
    · rw [if_pos (by rw [mk_size]; omega), if_pos (by omega), bt_mk l i h]
      cases hc : isDig l[i] with
      | true =>
        have := (isDig_iff _).1 hc
        rw [if_pos (by omega), if_pos (by omega), w64 (by omega) (by omega)]
        refine ih k (i + 1) (by omega) (by omega) (by omega) ?_
        rw [List.take_succ_eq_append_getElem h, List.all_append, ha]
        simp [hc]
      | false =>
        have hn : ¬ (48 ≤ l[i].toNat ∧ l[i].toNat ≤ 57) := fun h => by rw [(isDig_iff _).2 h] at hc; cases hc
        have hf := fin (fun _ => hc)
        by_cases h1 : ((l[i].toNat : Nat) : Int) ≥ 48
        · rw [if_pos h1, if_neg (by omega)]; exact hf
        · rw [if_neg h1]; exact hf
    · rw [if_neg (by rw [mk_size]; omega), if_pos (by omega)]
      exact fin (fun h' => absurd h' h)
theorem run_f (l : List UInt8) (hl : l.length ≤ 1000000000) (k : Nat) (hk : l.length + 2 < k) : number_run.f k (mk l) = some (mk (runL l).1, mk (runL l).2) :=
  run_go l hl (l.length + 1) k 0 (by omega) (by omega) (by omega) (by simp)
theorem cutp_f (a : List UInt8) (c : UInt8) : strings_CutPrefix.f (mk a) (⟨#[c]⟩ : ByteArray) = some (match a with | [] => (mk a, false) | d :: r => if d = c then (mk r, true) else (mk a, false)) := by
  have h1 : (⟨#[c]⟩ : ByteArray).size = 1 := rfl
  have h2 : (⟨#[c]⟩ : ByteArray).toList = [c] := by rw [Lib.toList_data]
  unfold strings_CutPrefix.f stringslite_CutPrefix.f stringslite_HasPrefix.f
  rw [h1, h2, mk_size]
  cases a with
  | nil => rw [if_neg (by simp)]; rfl
  | cons d r =>
    rw [if_pos (by simp; omega), if_pos (by omega), if_pos (by simp; omega)]
    have e1 : ((mk (d :: r)).extract 0 ((1 : Nat) : Int).toNat).toList = [d] := by
      rw [show (((1 : Nat) : Int).toNat) = 1 from rfl, mk_take, mk_toList]; rfl
    rw [e1]
    simp only [obi]
    by_cases hc : d = c
    · subst hc
      rw [if_pos rfl, if_pos (by simp), if_pos (by omega), if_pos (by simp; omega)]
      simp only [obi]
      have e2 := mk_drop (d :: r) 1
      rw [mk_size] at e2
      rw [show (((1 : Nat) : Int).toNat) = 1 from rfl, e2]
      rfl
    · rw [if_neg hc, if_neg (by simpa using hc)]
      rfl
theorem trimp_f (a : List UInt8) (c : UInt8) : strings_TrimPrefix.f (mk a) (⟨#[c]⟩ : ByteArray) = some (match a with | [] => mk a | d :: r => if d = c then mk r else mk a) := by
  have h1 : (⟨#[c]⟩ : ByteArray).size = 1 := rfl
  have h2 : (⟨#[c]⟩ : ByteArray).toList = [c] := by rw [Lib.toList_data]
  unfold strings_TrimPrefix.f stringslite_TrimPrefix.f stringslite_HasPrefix.f
  rw [h1, h2, mk_size]
  cases a with
  | nil => rw [if_neg (by simp)]; rfl
  | cons d r =>
    rw [if_pos (by simp; omega), if_pos (by omega), if_pos (by simp; omega)]
    have e1 : ((mk (d :: r)).extract 0 ((1 : Nat) : Int).toNat).toList = [d] := by
      rw [show (((1 : Nat) : Int).toNat) = 1 from rfl, mk_take, mk_toList]; rfl
    rw [e1]
    simp only [obi]
    by_cases hc : d = c
    · subst hc
      rw [if_pos rfl, if_pos (by simp), if_pos (by omega), if_pos (by simp; omega)]
      simp only [obi]
      have e2 := mk_drop (d :: r) 1
      rw [mk_size] at e2
      rw [show (((1 : Nat) : Int).toNat) = 1 from rfl, e2]
      rfl
    · rw [if_neg hc, if_neg (by simpa using hc)]
      rfl
theorem sign_f (l : List UInt8) : number_sign.f (mk l) = some ((signL l).1, mk (signL l).2) := by
  unfold number_sign.f
  rw [cutp_f, trimp_f]
  simp only [obi]
  cases l with
  | nil => rfl
  | cons c r =>
    simp only []
    by_cases h1 : c = 45
    · subst h1; simp [signL]
    · rw [if_neg h1]
      simp only [Bool.false_eq_true, if_false]
      by_cases h2 : c = 43
      · subst h2; simp [signL]
      · rw [if_neg h2]
        have : signL (c :: r) = (false, c :: r) := by
          unfold signL
          split
          · rename_i h; injection h with h; exact absurd h h1
          · rename_i h; injection h with h; exact absurd h h2
          · rfl
        rw [this]
theorem run_all (l : List UInt8) : (runL l).1.all isDig = true := by
  show (l.takeWhile isDig).all isDig = true
  induction l with
  | nil => rfl
  | cons c r ih =>
    cases hc : isDig c with
    | true => simp only [List.takeWhile_cons, hc, if_true, List.all_cons, ih, Bool.and_self]
    | false => simp [List.takeWhile_cons, hc]
theorem run_len (l : List UInt8) : (runL l).1.length + (runL l).2.length = l.length := by
  have := congrArg List.length (List.takeWhile_append_dropWhile (p := isDig) (l := l))
  rw [List.length_append] at this
  exact this
theorem sign_len (l : List UInt8) : (signL l).2.length ≤ l.length := by unfold signL; split <;> simp
theorem toNat_neI {c d : UInt8} (h : c ≠ d) : ((c.toNat : Nat) : Int) ≠ ((d.toNat : Nat) : Int) := fun e => h (UInt8.toNat_inj.1 (by omega))
theorem power_f (l : List UInt8) (hl : l.length ≤ 1000000000) (k : Nat) (hk : l.length + 10 < k) :
    ∃ b : ByteArray, number_power.f k (mk l) = some (b, (powL l).isSome) ∧ ∀ e, powL l = some e → b = S e := by
  obtain ⟨k, rfl⟩ : ∃ m, k = m + 1 := ⟨k - 1, by omega⟩
  unfold number_power.f
  rw [mk_toList, mk_size]
  cases l with
  | nil =>
    refine ⟨_, by rw [if_pos rfl]; rfl, fun e he => ?_⟩
    have : e = 0 := by simp [powL] at he; omega
    subst this
    apply of_list; rw [S_list]; show [48] = Lib.itoa ((0 : Nat) : Int); rw [Lib.itoa_nonneg, dec_zero]
  | cons c r =>
    rw [if_neg (by simp), if_pos (by simp), show (0 : Int) = ((0 : Nat) : Int) from rfl, bt_mk _ 0 (by simp)]
    simp only [List.getElem_cons_zero]
    have hlen : (signL r).2.length ≤ r.length := sign_len r
    have hl' : r.length + 1 ≤ 1000000000 := by simpa using hl
    have hrl := run_len (signL r).2
    simp only [List.length_cons] at hk
    have inner : (c = 101 ∨ c = 69) → ∃ b : ByteArray, number_power.j0 (k + 1) (mk (c :: r)) false = some (b, (powL (c :: r)).isSome) ∧ ∀ e, powL (c :: r) = some e → b = S e := by
      intro hc
      simp only [number_power.j0]
      have e1 : (mk (c :: r)).extract 1 (mk (c :: r)).size = mk r := by rw [mk_drop]; rfl
      rw [if_neg (by simp), if_pos (by rw [mk_size]; simp; omega), e1, sign_f]
      simp only [obi]
      rw [run_f _ (by omega) _ (by omega)]
      simp only [obi]
      have hd := run_all (signL r).2
      rw [of_f (mk (runL (signL r).2).1) (signL r).1 hd (by rw [mk_size]; omega)]
      simp only [obi]
      rw [mk_list, mk_toList, mk_toList]
      have ep : powL (c :: r) = (if (runL (signL r).2).1 ≠ [] ∧ (runL (signL r).2).2 = [] then some (if (signL r).1 = true then -((val (runL (signL r).2).1 : Nat) : Int) else ((val (runL (signL r).2).1 : Nat) : Int)) else none) := by
        show (if c = 101 ∨ c = 69 then _ else none) = _
        rw [if_pos hc]
      by_cases hd0 : (runL (signL r).2).1 = []
      · have en : powL (c :: r) = none := by rw [ep, if_neg (fun h => h.1 hd0)]
        rw [if_pos hd0, en]
        exact ⟨_, rfl, fun e he => by cases he⟩
      · rw [if_neg hd0]
        by_cases hr0 : (runL (signL r).2).2 = []
        · rw [if_pos ⟨hd0, hr0⟩] at ep
          rw [ep, hr0]
          exact ⟨_, rfl, fun e he => by rw [Option.some.inj he]⟩
        · have en : powL (c :: r) = none := by rw [ep, if_neg (fun h => hr0 h.2)]
          have : ((runL (signL r).2).2 == ([] : List UInt8)) = false := by simpa using hr0
          rw [en, this]
          exact ⟨_, rfl, fun e he => by cases he⟩
    by_cases h1 : c = 101
    · subst h1
      rw [if_pos (by rfl)]
      exact inner (.inl rfl)
    · have hn1 := toNat_neI h1
      rw [show (((101 : UInt8).toNat : Nat) : Int) = 101 from rfl] at hn1
      rw [if_neg hn1]
      by_cases h2 : c = 69
      · subst h2
        rw [show ((((69 : UInt8).toNat : Nat) : Int) != 69) = false from rfl]
        exact inner (.inr rfl)
      · have hn2 := toNat_neI h2
        rw [show (((69 : UInt8).toNat : Nat) : Int) = 69 from rfl] at hn2
        rw [bne_iff_ne.2 hn2]
        simp only [number_power.j0]
        have : powL (c :: r) = none := by
          show (if c = 101 ∨ c = 69 then _ else none) = _
          rw [if_neg (by rintro (h | h) <;> contradiction)]
        rw [if_pos trivial, this]
        exact ⟨_, rfl, fun e he => by cases he⟩
theorem tl_f (l : List UInt8) : strings_TrimLeft.f (mk l) (⟨#[48]⟩ : ByteArray) = some (mk (l.dropWhile (· == 48))) := by
  unfold strings_TrimLeft.f
  rw [show (⟨#[48]⟩ : ByteArray).data.toList = [48] from rfl]
  simp only []
  rw [if_pos (by decide)]
  rfl
theorem tr_f (l : List UInt8) (h : l.length ≤ 1000000000) : strings_TrimRight.f (mk l) (⟨#[48]⟩ : ByteArray) = some (mk ((l.reverse.dropWhile (· == 48)).reverse)) := by
  unfold strings_TrimRight.f
  rw [show (⟨#[48]⟩ : ByteArray).data.toList = [48] from rfl]
  simp only []
  rw [if_pos ⟨by decide, by rw [mk_size]; omega⟩]
  rfl
theorem itoa_f (n : Int) (h1 : -9223372036854775808 ≤ n) (h2 : n ≤ 9223372036854775807) : strconv_Itoa.f n = some (S n) := by
  unfold strconv_Itoa.f
  rw [if_pos ⟨h1, h2⟩]
  rfl
theorem S_len (n : Int) (m : Nat) (h : n.natAbs < 10 ^ m) (hm : 1 ≤ m) : (S n).size ≤ m + 1 := S_size_le n m h hm
theorem j1_f (neg : Bool) (whole part : List UInt8) (e : Int) (hw : whole.length ≤ 10000) (hp : part.length ≤ 10000) (he : (S e).size ≤ 100000) (k : Nat) (hk : 1000000 < k) :
    number_Read.j1 k neg (mk whole) (mk part) (S e) ((mk whole ++ mk part).toList == ([] : List UInt8)) = some (match restL neg whole part [] with
      | some _ => ((numP ⟨neg, whole, part, e⟩).1, (numP ⟨neg, whole, part, e⟩).2.1, (numP ⟨neg, whole, part, e⟩).2.2, true)
      | none => (false, mk [], mk [], false)) := by
  obtain ⟨k, rfl⟩ : ∃ m, k = m + 1 := ⟨k - 1, by omega⟩
  rw [mk_append, mk_toList]
  simp only [number_Read.j1]
  have er : restL neg whole part [] = if whole ++ part = [] then none else some ⟨neg, whole, part, 0⟩ := rfl
  by_cases h0 : whole ++ part = []
  · rw [if_pos (by rw [h0]; rfl), er, if_pos h0]
    rfl
  · have hb : ((whole ++ part) == ([] : List UInt8)) = false := by simpa using h0
    rw [hb, er, if_neg h0, if_neg (by simp), if_pos (by rw [mk_size, mk_size]; omega), mk_append, tl_f]
    simp only [obi]
    rw [mk_toList]
    unfold numP
    simp only []
    have hlen : ((whole ++ part).dropWhile (· == 48)).length ≤ whole.length + part.length := by
      have := List.Sublist.length_le (List.dropWhile_sublist (· == (48 : UInt8)) (l := whole ++ part))
      rw [List.length_append] at this; exact this
    generalize (whole ++ part).dropWhile (· == 48) = d at *
    by_cases hd : d = []
    · rw [if_pos hd, if_pos hd]
      rfl
    · rw [if_neg hd, if_neg hd, tr_f d (by omega)]
      simp only [obi]
      have hl2 : ((d.reverse.dropWhile (· == 48)).reverse).length ≤ d.length := by
        rw [List.length_reverse]
        have := List.Sublist.length_le (List.dropWhile_sublist (· == (48 : UInt8)) (l := d.reverse))
        rw [List.length_reverse] at this; exact this
      generalize (d.reverse.dropWhile (· == 48)).reverse = sh at *
      rw [mk_size, mk_size, mk_size]
      have e1 : wrap64 (wrap64 ((d.length : Int) - (sh.length : Int)) - (part.length : Int)) = (d.length : Int) - (sh.length : Int) - (part.length : Int) := by rw [w64 (x := (d.length : Int) - (sh.length : Int)) (by omega) (by omega), w64 (by omega) (by omega)]
      rw [e1, itoa_f _ (by omega) (by omega)]
      simp only [obi]
      have h6 : (10 : Nat) ^ 6 = 1000000 := by decide
      have hs := S_len ((d.length : Int) - (sh.length : Int) - (part.length : Int)) 6 (by omega) (by omega)
      rw [add_S e _ (by omega) (by omega) k (by omega)]
      simp only [obi]
theorem pow_size (l : List UInt8) (hl : l.length ≤ 10000) (e : Int) (h : powL l = some e) : (S e).size ≤ 10002 := by
  cases l with
  | nil =>
    have : e = 0 := by simp [powL] at h; omega
    subst this
    have := S_len 0 1 (by decide) (by omega)
    omega
  | cons c r =>
    have ep : powL (c :: r) = (if c = 101 ∨ c = 69 then (if (runL (signL r).2).1 ≠ [] ∧ (runL (signL r).2).2 = [] then some (if (signL r).1 = true then -((val (runL (signL r).2).1 : Nat) : Int) else ((val (runL (signL r).2).1 : Nat) : Int)) else none) else none) := rfl
    rw [ep] at h
    split at h
    · split at h
      · have h := Option.some.inj h
        have hv := val_lt_pow _ (run_all (signL r).2)
        have h1 := run_len (signL r).2
        have h2 := sign_len r
        simp only [List.length_cons] at hl
        have hm : 10 ^ (runL (signL r).2).1.length ≤ 10 ^ (r.length + 1) := Nat.pow_le_pow_right (by omega) (by omega)
        have hs := S_len e (r.length + 1) (by rw [← h]; split <;> omega) (by omega)
        omega
      · cases h
    · cases h
theorem j0_f (neg : Bool) (whole part s : List UInt8) (hw : whole.length ≤ 10000) (hp : part.length ≤ 10000) (hs : s.length ≤ 10000) (k : Nat) (hk : 1000010 < k) :
    number_Read.j0 k (mk s) neg (mk whole) (mk part) = some (match restL neg whole part s with
      | some p => ((numP p).1, (numP p).2.1, (numP p).2.2, true)
      | none => (false, mk [], mk [], false)) := by
  obtain ⟨k, rfl⟩ : ∃ m, k = m + 1 := ⟨k - 1, by omega⟩
  simp only [number_Read.j0]
  obtain ⟨b, hb, hbe⟩ := power_f s (by omega) k (by omega)
  rw [hb]
  simp only [obi]
  cases hpw : powL s with
  | none =>
    have er : restL neg whole part s = none := by unfold restL; rw [hpw]
    rw [er, if_neg (by simp)]
    obtain ⟨k, rfl⟩ : ∃ m, k = m + 1 := ⟨k - 1, by omega⟩
    simp only [number_Read.j1]
    rw [if_pos trivial]
    rfl
  | some e =>
    rw [hbe e hpw, if_pos (by simp), if_pos (by rw [mk_size, mk_size]; omega)]
    have hz := pow_size s hs e hpw
    rw [j1_f neg whole part e hw hp (by omega) k (by omega)]
    have er : restL neg whole part s = if whole ++ part = [] then none else some ⟨neg, whole, part, e⟩ := by unfold restL; rw [hpw]
    have er0 : restL neg whole part [] = if whole ++ part = [] then none else some ⟨neg, whole, part, 0⟩ := rfl
    rw [er, er0]
    by_cases h0 : whole ++ part = []
    · rw [if_pos h0, if_pos h0]
    · rw [if_neg h0, if_neg h0]
theorem read_f (l : List UInt8) (hl : l.length ≤ 5000) (k : Nat) (hk : 2000000 < k) : number_Read.f k (mk l) = some (readV l) := by
  unfold number_Read.f readV
  rw [sign_f]
  simp only [obi]
  have h1 := sign_len l
  rw [run_f _ (by omega) k (by omega)]
  simp only [obi]
  have h2 := run_len (signL l).2
  have er : readL l = (match (runL (signL l).2).2 with
    | 46 :: t => if (runL t).1 = [] then none else restL (signL l).1 (runL (signL l).2).1 (runL t).1 (runL t).2
    | s => restL (signL l).1 (runL (signL l).2).1 [] s) := rfl
  rw [er]
  generalize (runL (signL l).2).1 = w at *
  generalize (runL (signL l).2).2 = s at *
  generalize (signL l).1 = neg at *
  have hempty : (⟨#[]⟩ : ByteArray) = mk [] := rfl
  cases s with
  | nil =>
    have ec : strings_CutPrefix.f (mk []) (⟨#[46]⟩ : ByteArray) = some (mk [], false) := cutp_f [] 46
    rw [ec]
    simp only [obi]
    rw [if_neg (by simp), hempty, j0_f neg w [] [] (by omega) (by simp) (by simp) k (by omega)]
  | cons c t =>
    simp only [List.length_cons] at h2
    have ec : strings_CutPrefix.f (mk (c :: t)) (⟨#[46]⟩ : ByteArray) = some (if c = 46 then (mk t, true) else (mk (c :: t), false)) := cutp_f (c :: t) 46
    rw [ec]
    by_cases hc : c = 46
    · subst hc
      simp only [if_true, obi]
      rw [run_f t (by omega) k (by omega)]
      simp only [obi]
      have h3 := run_len t
      rw [mk_toList]
      by_cases hp : (runL t).1 = []
      · rw [if_pos hp, if_pos hp]
        rfl
      · rw [if_neg hp, if_neg hp, j0_f neg w _ _ (by omega) (by omega) (by omega) k (by omega)]
    · rw [if_neg hc]
      simp only [obi]
      rw [if_neg (by simp), hempty, j0_f neg w [] (c :: t) (by omega) (by simp) (by simp; omega) k (by omega)]
      have em : (match (c :: t : List UInt8) with
        | 46 :: t => if (runL t).1 = [] then none else restL neg w (runL t).1 (runL t).2
        | s => restL neg w [] s) = restL neg w [] (c :: t) := by
        split
        · rename_i h; injection h with h; exact absurd h hc
        · rfl
      rw [em]
end Go.Proofs.YthimiidnbnlemaaDoorD
