/- PLAIN LAWS of the printed functions of package number: which numbers may be, and all their spellings, on lists of bytes. -/
import Derived.Test.YthimiidnbnlemaaDoorNumberShiftPNum
import Derived.Test.YthimiidnbnlemaaDoorNumberShiftPDecQ
import Derived.Test.YthimiidnbnlemaaDoorNumberShiftPx9
import Derived.Test.YthimiidnbnlemaaDoorNumberShiftPx10
import Derived.Test.YthimiidnbnlemaaDoorNumberShiftPx11
import Derived.Test.YthimiidnbnlemaaDoorNumberShiftPx12
set_option linter.unusedVariables false
set_option linter.unusedSimpArgs false
namespace Go.Proofs.YthimiidnbnlemaaDoorD
open Go.RowKit Go.Proofs.YthimiidnbnlemaaDoorX Go.Proofs.YthimiidnbnlemaaDoor.P Go.Proofs.YthimiidnbnlemaaDoorW.PrintWords Go.Proofs.YthimiidnbnlemaaDoorW.PrintLast Go.Proofs.YthimiidnbnlemaaDoorW.PrintMore
def rightN (d e : List UInt8) : Bool := if d = [] then e == [] else d.all isDig && (d.head? != some 48 && (d.getLast? != some 48 && rightL e))
theorem run_of_all (l : List UInt8) (h : l.all isDig = true) : runL l = (l, []) := by
  unfold runL
  induction l with
  | nil => rfl
  | cons c r ih =>
    simp only [List.all_cons, Bool.and_eq_true] at h
    have := ih h.2
    injection this with h1 h2
    simp [List.takeWhile_cons, List.dropWhile_cons, h.1, h1, h2]
theorem run_not_all (l : List UInt8) (h : l.all isDig = false) : (runL l).2 ≠ [] := by
  intro e
  have h1 := run_all l
  have h2 := List.takeWhile_append_dropWhile (p := isDig) (l := l)
  have e' : l.dropWhile isDig = [] := e
  rw [e', List.append_nil] at h2
  have h3 : (l.takeWhile isDig).all isDig = true := h1
  rw [h2, h] at h3
  cases h3
theorem byte48 (c : UInt8) : (((c.toNat : Nat) : Int) = 48) ↔ c = 48 := ⟨fun e => UInt8.toNat_inj.1 (by show c.toNat = 48; omega), fun e => by rw [e]; rfl⟩
theorem right_n (neg : Bool) (d e : List UInt8) (hd : d.length ≤ 100000) (k : Nat) (hk : d.length + 10 < k) : number_Right.f k neg (mk d) (mk e) = some (rightN d e) := by
  unfold number_Right.f rightN
  rw [mk_toList, mk_toList]
  by_cases h0 : d = []
  · rw [if_pos h0, if_pos h0]
  · rw [if_neg h0, if_neg h0, run_f d (by omega) k (by omega)]
    simp only [obi]
    rw [mk_toList, mk_size]
    cases ha : d.all isDig with
    | false => rw [if_neg (run_not_all d ha)]; rfl
    | true =>
      rw [run_of_all d ha]
      simp only []
      have hp : 0 < d.length := List.length_pos_iff.2 h0
      have e48 : ((48 : Int)) = (((48 : UInt8).toNat : Nat) : Int) := rfl
      rw [if_pos trivial, if_pos (by omega), w64 (by omega) (by omega)]
      rw [show (0 : Int) = ((0 : Nat) : Int) from rfl, bt_mk d 0 hp, show (d.length : Int) - 1 = ((d.length - 1 : Nat) : Int) by omega, bt_mk d (d.length - 1) (by omega)]
      have hh : d.head? = some d[0] := by rw [List.head?_eq_getElem?, List.getElem?_eq_getElem hp]
      have hg : d.getLast? = some (d[d.length - 1]'(by omega)) := by rw [List.getLast?_eq_getElem?, List.getElem?_eq_getElem (by omega)]
      have sb : ∀ a b : UInt8, (some a != some b) = (a != b) := fun a b => by show (!(some a == some b)) = !(a == b); rw [Option.some_beq_some]
      rw [hh, hg, sb, sb]
      generalize d[0] = x
      generalize d[d.length - 1] = y
      unfold decimal_Right.f
      rw [mk_list]
      by_cases h1 : x = 48
      · rw [if_pos (by rw [h1]; rfl), h1]; rfl
      · rw [if_neg (fun h => h1 ((byte48 x).1 h)), bne_iff_ne.2 h1, if_pos (by omega), if_pos (by omega)]
        by_cases h2 : y = 48
        · rw [if_pos (by rw [h2]; rfl), h2]; rfl
        · rw [if_neg (fun h => h2 ((byte48 y).1 h)), bne_iff_ne.2 h2]
          rfl
theorem rightN_spec (d e : List UInt8) (h : rightN d e = true) (h0 : d ≠ []) : d.all isDig = true ∧ d.head? ≠ some 48 ∧ d.getLast? ≠ some 48 ∧ rightL e = true := by
  unfold rightN at h
  rw [if_neg h0] at h
  simp only [Bool.and_eq_true, bne_iff_ne, ne_eq] at h
  exact ⟨h.1, h.2.1, h.2.2.1, h.2.2.2⟩
def spell (d : List UInt8) (e : Int) : List UInt8 := d ++ 101 :: Lib.itoa e
def firstsL (d : List UInt8) (e : Int) : List (List UInt8) :=
  if 0 ≤ e ∧ e ≤ 20 then [d ++ List.replicate e.toNat 48]
  else if e < 0 ∧ -(d.length : Int) < e then [d.take ((d.length : Int) + e).toNat ++ 46 :: d.drop ((d.length : Int) + e).toNat]
  else if e ≤ -(d.length : Int) ∧ -(d.length : Int) - 20 ≤ e then [48 :: 46 :: (List.replicate (-e - (d.length : Int)).toNat 48 ++ d)]
  else []
def lastsL (d : List UInt8) (e : Int) : List (List UInt8) :=
  if 1 < d.length ∧ e + ((d.length : Int) - 1) ≠ 0 then [d.take 1 ++ 46 :: d.drop 1 ++ 101 :: Lib.itoa (e + ((d.length : Int) - 1))] else []
def plainL (d : List UInt8) (e : Int) : List (List UInt8) := firstsL d e ++ [spell d e] ++ lastsL d e
theorem repeat_one (n : Nat) : Lib.repeatL [48] n = List.replicate n 48 := by
  induction n with
  | zero => rfl
  | succ n ih =>
    rw [List.replicate_succ, ← ih]
    simp [Lib.repeatL, List.replicate_succ]
theorem zeros_f (n : Nat) (h : n ≤ 1000) : number_zeros.f (n : Int) = some (mk (List.replicate n 48)) := by
  unfold number_zeros.f strings_Repeat.f
  have e1 : (⟨#[48]⟩ : ByteArray).size = 1 := rfl
  rw [if_pos ⟨by omega, by omega, by rw [e1]; omega⟩]
  simp only [obi]
  rw [show ((n : Int)).toNat = n by omega]
  refine congrArg some (of_list _ _ ?_)
  exact repeat_one n
theorem S_mk (n : Int) : S n = mk (Lib.itoa n) := rfl
theorem j2_f (out : List (List UInt8)) (d : List UInt8) (e : Int) (hd : d.length ≤ 10000) (h1 : 1 ≤ d.length) (he : (S e).size ≤ 100000) (ho : out.length ≤ 10) (k : Nat) (hk : 1000000 < k) :
    number_plain.j2 k (mk d) (S e) (out.map mk) (d.length : Int) = some ((out ++ [spell d e] ++ lastsL d e).map mk) := by
  obtain ⟨k, rfl⟩ : ∃ m, k = m + 1 := ⟨k - 1, by omega⟩
  have z101 : (⟨#[101]⟩ : ByteArray) = mk [101] := rfl
  have z46 : (⟨#[46]⟩ : ByteArray) = mk [46] := rfl
  simp only [number_plain.j2]
  rw [mk_size, z101, z46, mk_append, mk_size]
  have hl : (List.map mk out).length = out.length := by simp
  rw [S_size] at he
  rw [if_pos (by omega), if_pos (by rw [S_size]; simp; omega), if_pos (by rw [hl]; omega)]
  simp only [obi]
  have espell : mk (d ++ [101]) ++ S e = mk (spell d e) := by rw [S_mk, mk_append]; simp [spell]
  rw [espell]
  have emap : List.map mk out ++ [mk (spell d e)] = (out ++ [spell d e]).map mk := by simp
  rw [emap]
  by_cases hn : (d.length : Int) > 1
  · rw [if_pos hn, w64 (by omega) (by omega), itoa_f _ (by omega) (by omega)]
    simp only [obi]
    have h6 : (10 : Nat) ^ 6 = 1000000 := by decide
    have hs := S_len ((d.length : Int) - 1) 6 (by omega) (by omega)
    rw [add_S e _ (by rw [S_size]; omega) (by omega) k (by rw [S_size]; omega)]
    simp only [obi]
    by_cases hz : e + ((d.length : Int) - 1) = 0
    · have eL : lastsL d e = [] := by unfold lastsL; rw [if_neg (fun h => h.2 hz)]
      rw [if_pos ((S_zero_iff _).2 hz), eL, List.append_nil]
    · have eL : lastsL d e = [d.take 1 ++ 46 :: d.drop 1 ++ 101 :: Lib.itoa (e + ((d.length : Int) - 1))] := by unfold lastsL; rw [if_pos ⟨by omega, hz⟩]
      rw [if_neg (fun h => hz ((S_zero_iff _).1 h)), eL]
      have e1 := mk_take d 1
      have e2 := mk_drop d 1
      rw [mk_size] at e2
      rw [if_pos (by omega), if_pos (by omega), e1, e2, mk_append, mk_append, mk_append]
      have hsum : (S (e + ((d.length : Int) - 1))).size ≤ 1000000 := by
        have f1 := fits_of (Lib.itoa e) (itoa_right e).1
        rw [(itoa_right e).2] at f1
        have f2 : Fits ((d.length : Int) - 1) 6 := by unfold Fits; omega
        have f3 := (f1.mono (n := (Lib.itoa e).length + 6) (by omega)).add (f2.mono (n := (Lib.itoa e).length + 6) (by omega))
        have := S_size_le _ _ f3 (by omega)
        omega
      have l1 : (d.take 1).length = 1 := by rw [List.length_take]; omega
      have l2 : (d.drop 1).length = d.length - 1 := by rw [List.length_drop]
      rw [mk_size, mk_size, mk_size, mk_size, mk_size]
      simp only [List.length_append, List.length_cons, List.length_nil, l1, l2]
      rw [if_pos (by omega), if_pos (by omega), if_pos (by omega), if_pos (by omega), if_pos (by simp; omega)]
      refine congrArg some ?_
      rw [S_mk, mk_append]
      simp
  · have eL : lastsL d e = [] := by unfold lastsL; rw [if_neg (fun h => hn (by omega))]
    rw [if_neg hn, eL, List.append_nil]
theorem intI_S (e : Int) (h : (S e).size ≤ 100000) : decimal_Int.f (S e) = some (intR e) := by
  unfold decimal_Int.f
  rw [if_pos (by omega), intL_right _ (S_right e), S_toI]
theorem plain_f (d : List UInt8) (e : Int) (hd : d.length ≤ 10000) (h1 : 1 ≤ d.length) (he : (S e).size ≤ 100000) (k : Nat) (hk : 1000010 < k) :
    number_plain.f k (mk d) (S e) = some ((plainL d e).map mk) := by
  obtain ⟨k, rfl⟩ : ∃ m, k = m + 2 := ⟨k - 2, by omega⟩
  have J2 : ∀ (k : Nat) (out : List (List UInt8)), 1000000 < k → out.length ≤ 10 → number_plain.j2 k (mk d) (S e) (out.map mk) (d.length : Int) = some ((out ++ [spell d e] ++ lastsL d e).map mk) :=
    fun k out hk ho => j2_f out d e hd h1 he ho k hk
  have z46 : (⟨#[46]⟩ : ByteArray) = mk [46] := rfl
  have z046 : (⟨#[48, 46]⟩ : ByteArray) = mk [48, 46] := rfl
  have enil : ([] : List ByteArray) = ([] : List (List UInt8)).map mk := rfl
  have eone : ∀ x : List UInt8, ([] : List (List UInt8)).map mk ++ [mk x] = [x].map mk := fun x => rfl
  unfold number_plain.f
  rw [intI_S e he, mk_size, enil]
  simp only [obi]
  unfold plainL
  by_cases hr : -1000000 ≤ e ∧ e ≤ 1000000
  · have er : intR e = (e, true) := by unfold intR; rw [if_pos hr]
    rw [er]
    simp only []
    rw [if_pos trivial]
    by_cases hp : e ≥ 0
    · rw [if_pos hp]
      by_cases h20 : e ≤ 20
      · have ef : firstsL d e = [d ++ List.replicate e.toNat 48] := by unfold firstsL; rw [if_pos ⟨hp, h20⟩]
        rw [ef]
        have hz := zeros_f e.toNat (by omega)
        rw [show ((e.toNat : Nat) : Int) = e by omega] at hz
        simp only [number_plain.j0]
        rw [if_pos (by simpa using h20), hz]
        simp only [obi]
        rw [mk_size, mk_size, List.length_replicate, if_pos (by omega), if_pos (by simp), mk_append, eone]
        exact J2 _ _ (by omega) (by simp)
      · have ef : firstsL d e = [] := by unfold firstsL; rw [if_neg (by omega), if_neg (by omega), if_neg (by omega)]
        rw [ef]
        simp only [number_plain.j0]
        rw [if_neg (by simpa using h20), if_neg (by omega)]
        simp only [number_plain.j1]
        rw [if_neg (by simp), w64 (x := -(d.length : Int)) (by omega) (by omega), if_neg (by omega)]
        exact J2 _ [] (by omega) (by simp)
    · rw [if_neg hp]
      simp only [number_plain.j0]
      rw [if_neg (by simp), if_pos (by omega), w64 (x := -(d.length : Int)) (by omega) (by omega)]
      by_cases hin : e > -(d.length : Int)
      · have ef : firstsL d e = [d.take ((d.length : Int) + e).toNat ++ 46 :: d.drop ((d.length : Int) + e).toNat] := by unfold firstsL; rw [if_neg (by omega), if_pos ⟨by omega, by omega⟩]
        rw [ef]
        simp only [number_plain.j1]
        have e1 := mk_take d ((d.length : Int) + e).toNat
        have e2 := mk_drop d ((d.length : Int) + e).toNat
        rw [mk_size] at e2
        rw [if_pos (by simpa using hin), w64 (x := (d.length : Int) + e) (by omega) (by omega), mk_size, if_pos (by omega), if_pos (by omega), e1, e2, z46, mk_append, mk_append, mk_size, mk_size, mk_size]
        simp only [List.length_append, List.length_cons, List.length_nil, List.length_take, List.length_drop]
        rw [if_pos (by omega), if_pos (by omega), if_pos (by simp), eone, show d.take ((d.length : Int) + e).toNat ++ [46] ++ d.drop ((d.length : Int) + e).toNat = d.take ((d.length : Int) + e).toNat ++ 46 :: d.drop ((d.length : Int) + e).toNat by simp]
        exact J2 _ _ (by omega) (by simp)
      · simp only [number_plain.j1]
        rw [if_neg (by simpa using hin), w64 (x := -(d.length : Int)) (by omega) (by omega), if_pos (by omega), w64 (x := -(d.length : Int) - 20) (by omega) (by omega)]
        by_cases hlow : e ≥ -(d.length : Int) - 20
        · have ef : firstsL d e = [48 :: 46 :: (List.replicate (-e - (d.length : Int)).toNat 48 ++ d)] := by unfold firstsL; rw [if_neg (by omega), if_neg (by omega), if_pos ⟨by omega, by omega⟩]
          rw [ef, if_pos hlow, w64 (x := -e) (by omega) (by omega), w64 (x := -e - (d.length : Int)) (by omega) (by omega)]
          have hz := zeros_f (-e - (d.length : Int)).toNat (by omega)
          rw [show (((-e - (d.length : Int)).toNat : Nat) : Int) = -e - (d.length : Int) by omega] at hz
          rw [hz]
          simp only [obi]
          rw [z046, mk_append, mk_append, mk_size, mk_size, mk_size]
          simp only [List.length_append, List.length_cons, List.length_nil, List.length_replicate]
          rw [if_pos (by omega), if_pos (by omega), if_pos (by simp), eone]
          exact J2 _ _ (by omega) (by simp)
        · have ef : firstsL d e = [] := by unfold firstsL; rw [if_neg (by omega), if_neg (by omega), if_neg (by omega)]
          rw [ef, if_neg hlow]
          exact J2 _ [] (by omega) (by simp)
  · have er : intR e = (0, false) := by unfold intR; rw [if_neg hr]
    rw [er]
    simp only []
    have ef : firstsL d e = [] := by unfold firstsL; rw [if_neg (by omega), if_neg (by omega), if_neg (by omega)]
    rw [if_neg (by simp), ef]
    exact J2 _ [] (by omega) (by simp)
def spellsL (neg : Bool) (d : List UInt8) (e : Int) : List (List UInt8) :=
  (if d = [] then [[48]] else plainL d e).map fun x => if neg = true then 45 :: x else x
theorem rdOf_at (xs : List ByteArray) (n : Nat) (h : n < xs.length) : rdOf ByteArray.empty xs (n : Int) = xs[n] := by
  simp [rdOf, List.getElem?_eq_getElem h]
theorem neg_go (xs : List (List UInt8)) (hx : xs.length ≤ 100) (hz : ∀ x ∈ xs, x.length ≤ 1000000) : ∀ (d k i : Nat), d < k → xs.length < i + d → i ≤ xs.length →
    number_Plain.l0 k (((xs.take i).map fun x => 45 :: x) ++ xs.drop i |>.map mk) (xs.length : Int) (i : Int) = some ((xs.map fun x => 45 :: x).map mk) := by
  intro d
  induction d with
  | zero => intro k i hk hd hi; omega
  | succ d ih =>
    intro k i hk hd hi
    obtain ⟨k, rfl⟩ : ∃ m, k = m + 1 := ⟨k - 1, by omega⟩
    simp only [number_Plain.l0]
    have hlen : ((((xs.take i).map fun x => 45 :: x) ++ xs.drop i).map mk).length = xs.length := by simp; omega
    by_cases h : i < xs.length
    · have hg : ((((xs.take i).map fun x => (45 : UInt8) :: x) ++ xs.drop i).map mk)[i]'(by omega) = mk xs[i] := by
        have h2 : ((((xs.take i).map fun x => (45 : UInt8) :: x) ++ xs.drop i).map mk)[i]? = some (mk xs[i]) := by
          rw [List.getElem?_map, List.getElem?_append_right (by simp; omega), List.getElem?_drop, List.length_map, List.length_take, Nat.min_eq_left hi, Nat.sub_self, Nat.add_zero, List.getElem?_eq_getElem h]
          rfl
        rw [List.getElem?_eq_getElem (by omega)] at h2
        exact Option.some.inj h2
      rw [if_pos (by omega), if_pos (by omega), if_pos (by omega), rdOf_at _ i (by omega), hg, mk_size]
      have hs := hz _ (List.getElem_mem h)
      rw [if_pos (by omega), w64 (by omega) (by omega), show (i : Int).toNat = i by omega]
      have e1 : (((((xs.take i).map fun x => (45 : UInt8) :: x) ++ xs.drop i).map mk).set i ((⟨#[45]⟩ : ByteArray) ++ mk xs[i])) = (((xs.take (i + 1)).map fun x => (45 : UInt8) :: x) ++ xs.drop (i + 1)).map mk := by
        have z45 : (⟨#[45]⟩ : ByteArray) = mk [45] := rfl
        rw [z45, mk_append]
        apply List.ext_getElem?
        intro j
        rw [List.getElem?_set]
        by_cases hj : i = j
        · subst hj
          rw [if_pos rfl, if_pos (by omega), List.getElem?_map, List.getElem?_append_left (by simp; omega), List.getElem?_map, List.getElem?_take, if_pos (by omega), List.getElem?_eq_getElem h]
          simp
        · rw [if_neg hj, List.getElem?_map, List.getElem?_map]
          congr 1
          by_cases hlt : j < i
          · rw [List.getElem?_append_left (by simp; omega), List.getElem?_append_left (by simp; omega), List.getElem?_map, List.getElem?_map, List.getElem?_take, List.getElem?_take, if_pos hlt, if_pos (by omega)]
          · rw [List.getElem?_append_right (by simp; omega), List.getElem?_append_right (by simp; omega)]
            simp
            congr 1
            omega
      rw [e1]
      exact ih k (i + 1) (by omega) (by omega) (by omega)
    · have hi' : i = xs.length := by omega
      rw [if_neg (by omega)]
      subst hi'
      simp
theorem plainL_len (d : List UInt8) (e : Int) : 1 ≤ (plainL d e).length ∧ (plainL d e).length ≤ 3 := by
  have h1 : (firstsL d e).length ≤ 1 := by unfold firstsL; repeat' split
                                           all_goals simp
  have h2 : (lastsL d e).length ≤ 1 := by unfold lastsL; split <;> simp
  unfold plainL
  simp only [List.length_append, List.length_cons, List.length_nil]
  omega
theorem spellsL_len (neg : Bool) (d : List UInt8) (e : Int) : 1 ≤ (spellsL neg d e).length ∧ (spellsL neg d e).length ≤ 3 := by
  unfold spellsL
  rw [List.length_map]
  split
  · simp
  · exact plainL_len d e
theorem sum_size (e : Int) (m : Int) (h : (S e).size ≤ 100000) (hm : m.natAbs < 1000000) : (S (e + m)).size ≤ 200000 := by
  rw [S_size] at h
  have f1 := fits_of (Lib.itoa e) (itoa_right e).1
  rw [(itoa_right e).2] at f1
  have h6 : (10 : Nat) ^ 6 = 1000000 := by decide
  have f2 : Fits m 6 := by unfold Fits; omega
  have f3 := (f1.mono (n := (Lib.itoa e).length + 6) (by omega)).add (f2.mono (n := (Lib.itoa e).length + 6) (by omega))
  have := S_size_le _ _ f3 (by omega)
  omega
theorem plainL_size (d : List UInt8) (e : Int) (hd : d.length ≤ 10000) (he : (S e).size ≤ 100000) : ∀ x ∈ plainL d e, x.length ≤ 900000 := by
  intro x hx
  unfold plainL at hx
  rw [S_size] at he
  rcases List.mem_append.1 hx with hx | hx
  · rcases List.mem_append.1 hx with hx | hx
    · unfold firstsL at hx
      split at hx
      · rename_i h; simp only [List.mem_singleton] at hx; subst hx; simp; omega
      · split at hx
        · simp only [List.mem_singleton] at hx; subst hx; simp; omega
        · split at hx
          · simp only [List.mem_singleton] at hx; subst hx; simp; omega
          · simp at hx
    · simp only [List.mem_singleton] at hx; subst hx; unfold spell; simp; omega
  · unfold lastsL at hx
    split at hx
    · simp only [List.mem_singleton] at hx; subst hx
      have := sum_size e ((d.length : Int) - 1) (by rw [S_size]; omega) (by omega)
      rw [S_size] at this
      simp; omega
    · simp at hx
theorem plains_f (neg : Bool) (d e : List UInt8) (hd : d.length ≤ 10000) (he : e.length ≤ 100000) (k : Nat) (hk : 1000020 < k) :
    number_Plain.f k neg (mk d) (mk e) = some (if rightN d e = true then (spellsL neg d (toI e)).map mk else []) := by
  obtain ⟨k, rfl⟩ : ∃ m, k = m + 1 := ⟨k - 1, by omega⟩
  unfold number_Plain.f
  rw [right_n neg d e (by omega) _ (by omega)]
  simp only [obi]
  cases hr : rightN d e with
  | false => rw [if_neg (by simp)]; rfl
  | true =>
    rw [if_pos rfl, if_pos rfl, mk_toList]
    have tail : ∀ xs : List (List UInt8), xs.length ≤ 100 → (∀ x ∈ xs, x.length ≤ 1000000) → number_Plain.j0 (k + 1) (xs.map mk) neg (mk d) (mk e) = some ((xs.map fun x => if neg = true then 45 :: x else x).map mk) := by
      intro xs h1 h2
      simp only [number_Plain.j0]
      cases neg with
      | true =>
        rw [if_pos rfl]
        have := neg_go xs h1 h2 (xs.length + 1) k 0 (by omega) (by omega) (by omega)
        simp only [List.take_zero, List.map_nil, List.nil_append, List.drop_zero] at this
        rw [List.length_map]
        exact this
      | false => rw [if_neg (by simp)]; simp
    unfold spellsL
    by_cases h0 : d = []
    · rw [if_pos h0, if_pos h0]
      exact tail [[48]] (by simp) (by simp)
    · rw [if_neg h0, if_neg h0]
      obtain ⟨_, _, _, hre⟩ := rightN_spec d e hr h0
      have ee : mk e = S (toI e) := by rw [S_mk, right_itoa e hre]
      have hs : (S (toI e)).size ≤ 100000 := by rw [← ee, mk_size]; exact he
      rw [ee, plain_f d (toI e) hd (List.length_pos_iff.2 h0) hs _ (by omega)]
      simp only [obi]
      have := tail (plainL d (toI e)) (by have := plainL_len d (toI e); omega) (fun x hx => by have := plainL_size d (toI e) hd hs x hx; omega)
      rw [ee] at this
      exact this
def least : List UInt8 → List (List UInt8) → List UInt8
  | b, [] => b
  | b, x :: r => least (if x.length < b.length then x else b) r
def shortL : List (List UInt8) → List UInt8
  | [] => []
  | x :: r => least x r
theorem least_go (xs : List (List UInt8)) (hx : xs.length ≤ 100) : ∀ (d k i : Nat) (b : List UInt8), d < k → xs.length < i + d → i ≤ xs.length →
    number_Shortest.l0 k (mk b) (xs.map mk) (xs.length : Int) (i : Int) = some (mk (least b (xs.drop i))) := by
  intro d
  induction d with
  | zero => intro k i b hk hd hi; omega
  | succ d ih =>
    intro k i b hk hd hi
    obtain ⟨k, rfl⟩ : ∃ m, k = m + 1 := ⟨k - 1, by omega⟩
    simp only [number_Shortest.l0]
    by_cases h : i < xs.length
    · rw [if_pos (by omega), if_pos (by omega), if_pos (by rw [List.length_map]; omega), rdOf_at _ i (by rw [List.length_map]; omega), List.getElem_map, mk_size, mk_size, w64 (by omega) (by omega), List.drop_eq_getElem_cons h, least]
      by_cases hc : xs[i].length < b.length
      · rw [if_pos (by omega), if_pos hc]
        exact ih k (i + 1) _ (by omega) (by omega) (by omega)
      · rw [if_neg (by omega), if_neg hc]
        exact ih k (i + 1) _ (by omega) (by omega) (by omega)
    · rw [if_neg (by omega), List.drop_eq_nil_of_le (by omega)]
      rfl
theorem shortest_f (xs : List (List UInt8)) (hx : xs.length ≤ 100) (k : Nat) (hk : 200 < k) : number_Shortest.f k (xs.map mk) = some (mk (shortL xs)) := by
  unfold number_Shortest.f
  rw [List.length_map]
  cases xs with
  | nil => rw [if_pos (by rfl)]; rfl
  | cons x r =>
    simp only [List.length_cons] at hx ⊢
    rw [if_neg (by omega), if_pos (by omega), show (0 : Int) = ((0 : Nat) : Int) from rfl, rdOf_at _ 0 (by simp)]
    have := least_go (x :: r) (by simpa using hx) (r.length + 3) k 0 x (by omega) (by simp) (by omega)
    rw [List.drop_zero] at this
    have e : least x (x :: r) = least x r := by rw [least, if_neg (by omega)]
    rw [e] at this
    have e2 : shortL (x :: r) = least x r := rfl
    rw [e2]
    simpa using this
theorem short_f (neg : Bool) (d e : List UInt8) (hd : d.length ≤ 10000) (he : e.length ≤ 100000) (k : Nat) (hk : 1000020 < k) :
    number_Short.f k neg (mk d) (mk e) = some (mk (shortL (if rightN d e = true then spellsL neg d (toI e) else []))) := by
  unfold number_Short.f
  rw [plains_f neg d e hd he k hk]
  simp only [obi]
  have hl := spellsL_len neg d (toI e)
  have hl3 : (if rightN d e = true then spellsL neg d (toI e) else []).length ≤ 100 := by
    split
    · omega
    · simp
  have : (if rightN d e = true then (spellsL neg d (toI e)).map mk else []) = (if rightN d e = true then spellsL neg d (toI e) else []).map mk := by split <;> rfl
  rw [this, shortest_f _ hl3 k (by omega)]
  rfl
end Go.Proofs.YthimiidnbnlemaaDoorD
