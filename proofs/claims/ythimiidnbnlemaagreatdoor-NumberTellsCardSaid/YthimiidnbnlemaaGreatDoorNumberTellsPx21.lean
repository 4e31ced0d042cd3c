-- printed by xprint.py (a program of this session's, over the kit's print); Lean checks it
import Derived.Test.YthimiidnbnlemaaGreatDoorNumberTellsPx0
import Derived.Test.YthimiidnbnlemaaGreatDoorNumberTellsPx16
import Derived.Test.YthimiidnbnlemaaGreatDoorNumberTellsPx17
import Derived.Test.YthimiidnbnlemaaGreatDoorNumberTellsPx19
import Derived.Test.YthimiidnbnlemaaGreatDoorNumberTellsPx20
namespace Go.Proofs.YthimiidnbnlemaaGreatDoor.P
open Go.RowKit Go.Proofs.YthimiidnbnlemaaGreatDoorW.PrintWords Go.Proofs.YthimiidnbnlemaaGreatDoorW.PrintLast Go.Proofs.YthimiidnbnlemaaGreatDoorW.PrintMore Go.Proofs.YthimiidnbnlemaaGreatDoorX
attribute [local go_sem] max2_int min2_int max_two min_two max_three min_three max_four min_four   -- for this text's walks alone
set_option linter.unusedVariables false
set_option linter.unusedSimpArgs false
mutual
def r1_PlainNum.j0 : Nat → ByteArray → Bool → ByteArray → ByteArray → Option (List ByteArray)
 | 0, _, _, _, _ => none
 | k + 1, x3, x288000, x288001, x288002 => if x288001.toList = ([] : List UInt8) then (if x3.size + 1 ≤ 9223372036854775807 then (some (([x3 ++ (⟨#[48]⟩ : ByteArray)] : List ByteArray))) else (none)) else ((r1_Int.f k x288002).bind fun bt292 => (if bt292.2 = true then (if bt292.1 ≥ 0 then (r1_PlainNum.j1 k x3 x288001 ([] : List ByteArray) bt292.1 bt292.2 (x288001.size : Int) (decide (bt292.1 ≤ 20)) x288000 x288001 x288002) else (r1_PlainNum.j1 k x3 x288001 ([] : List ByteArray) bt292.1 bt292.2 (x288001.size : Int) false x288000 x288001 x288002)) else (r1_PlainNum.j1 k x3 x288001 ([] : List ByteArray) bt292.1 bt292.2 (x288001.size : Int) false x288000 x288001 x288002)))
def r1_PlainNum.j1 : Nat → ByteArray → ByteArray → List ByteArray → Int → Bool → Int → Bool → Bool → ByteArray → ByteArray → Option (List ByteArray)
 | 0, _, _, _, _, _, _, _, _, _, _ => none
 | k + 1, x3, x4, x5, x6, x7, x8, x40, x288000, x288001, x288002 => if x40 = true then (if x3.size + x4.size ≤ 9223372036854775807 then ((r1_noughts.f k x6).bind fun t294 => (if (x3 ++ x4).size + t294.size ≤ 9223372036854775807 then (if x5.length < 8796093022208 then (r1_PlainNum.j2 k x3 x4 (x5 ++ [(x3 ++ x4) ++ t294]) x6 x7 x8 x288000 x288001 x288002) else (none)) else (none))) else (none)) else (r1_PlainNum.j2 k x3 x4 x5 x6 x7 x8 x288000 x288001 x288002)
def r1_PlainNum.j2 : Nat → ByteArray → ByteArray → List ByteArray → Int → Bool → Int → Bool → ByteArray → ByteArray → Option (List ByteArray)
 | 0, _, _, _, _, _, _, _, _, _ => none
 | k + 1, x3, x4, x5, x6, x7, x8, x288000, x288001, x288002 => if x7 = true then (if x6 < 0 then (r1_PlainNum.j3 k x3 x4 x5 x6 x7 x8 (decide (x6 > (wrap64 (-x8)))) x288000 x288001 x288002) else (r1_PlainNum.j3 k x3 x4 x5 x6 x7 x8 false x288000 x288001 x288002)) else (r1_PlainNum.j3 k x3 x4 x5 x6 x7 x8 false x288000 x288001 x288002)
def r1_PlainNum.j3 : Nat → ByteArray → ByteArray → List ByteArray → Int → Bool → Int → Bool → Bool → ByteArray → ByteArray → Option (List ByteArray)
 | 0, _, _, _, _, _, _, _, _, _, _ => none
 | k + 1, x3, x4, x5, x6, x7, x8, x60, x288000, x288001, x288002 => if x60 = true then (if 0 ≤ (wrap64 (x8 + x6)) then (if (wrap64 (x8 + x6)) ≤ (x4.size : Int) then (if x3.size + (x4.extract 0 ((wrap64 (x8 + x6)) : Int).toNat).size ≤ 9223372036854775807 then (if (x3 ++ (x4.extract 0 ((wrap64 (x8 + x6)) : Int).toNat)).size + 1 ≤ 9223372036854775807 then (if ((x3 ++ (x4.extract 0 ((wrap64 (x8 + x6)) : Int).toNat)) ++ (⟨#[46]⟩ : ByteArray)).size + (x4.extract ((wrap64 (x8 + x6)) : Int).toNat x4.size).size ≤ 9223372036854775807 then (if x5.length < 8796093022208 then (r1_PlainNum.j4 k x3 x4 (x5 ++ [((x3 ++ (x4.extract 0 ((wrap64 (x8 + x6)) : Int).toNat)) ++ (⟨#[46]⟩ : ByteArray)) ++ (x4.extract ((wrap64 (x8 + x6)) : Int).toNat x4.size)]) x6 x7 x8 x288000 x288001 x288002) else (none)) else (none)) else (none)) else (none)) else (none)) else (none)) else (r1_PlainNum.j4 k x3 x4 x5 x6 x7 x8 x288000 x288001 x288002)
def r1_PlainNum.j4 : Nat → ByteArray → ByteArray → List ByteArray → Int → Bool → Int → Bool → ByteArray → ByteArray → Option (List ByteArray)
 | 0, _, _, _, _, _, _, _, _, _ => none
 | k + 1, x3, x4, x5, x6, x7, x8, x288000, x288001, x288002 => if x7 = true then (if x6 ≤ (wrap64 (-x8)) then (r1_PlainNum.j5 k x3 x4 x5 x6 x8 (decide (x6 ≥ (wrap64 ((wrap64 (-x8)) - 20)))) x288000 x288001 x288002) else (r1_PlainNum.j5 k x3 x4 x5 x6 x8 false x288000 x288001 x288002)) else (r1_PlainNum.j5 k x3 x4 x5 x6 x8 false x288000 x288001 x288002)
def r1_PlainNum.j5 : Nat → ByteArray → ByteArray → List ByteArray → Int → Int → Bool → Bool → ByteArray → ByteArray → Option (List ByteArray)
 | 0, _, _, _, _, _, _, _, _, _ => none
 | k + 1, x3, x4, x5, x6, x8, x91, x288000, x288001, x288002 => if x91 = true then (if x3.size + 2 ≤ 9223372036854775807 then ((r1_noughts.f k (wrap64 ((wrap64 (-x6)) - x8))).bind fun t301 => (if (x3 ++ (⟨#[48, 46]⟩ : ByteArray)).size + t301.size ≤ 9223372036854775807 then (if ((x3 ++ (⟨#[48, 46]⟩ : ByteArray)) ++ t301).size + x4.size ≤ 9223372036854775807 then (if x5.length < 8796093022208 then (r1_PlainNum.j6 k x3 x4 (x5 ++ [((x3 ++ (⟨#[48, 46]⟩ : ByteArray)) ++ t301) ++ x4]) x8 x288000 x288001 x288002) else (none)) else (none)) else (none))) else (none)) else (r1_PlainNum.j6 k x3 x4 x5 x8 x288000 x288001 x288002)
def r1_PlainNum.j6 : Nat → ByteArray → ByteArray → List ByteArray → Int → Bool → ByteArray → ByteArray → Option (List ByteArray)
 | 0, _, _, _, _, _, _, _ => none
 | k + 1, x3, x4, x5, x8, x288000, x288001, x288002 => if x3.size + x4.size ≤ 9223372036854775807 then (if (x3 ++ x4).size + 1 ≤ 9223372036854775807 then (if ((x3 ++ x4) ++ (⟨#[101]⟩ : ByteArray)).size + x288002.size ≤ 9223372036854775807 then (if x5.length < 8796093022208 then ((some (x5 ++ [((x3 ++ x4) ++ (⟨#[101]⟩ : ByteArray)) ++ x288002] : List ByteArray)).bind fun y305 => (if x8 > 1 then ((r1_Dec.f k (wrap64 (x8 - 1))).bind fun t308 => ((r1_Add.f k x288002 t308).bind fun bt309 => (if 0 ≤ 1 then (if 1 ≤ (x4.size : Int) then (if x3.size + (x4.extract 0 1).size ≤ 9223372036854775807 then (if (x3 ++ (x4.extract 0 1)).size + 1 ≤ 9223372036854775807 then (if ((x3 ++ (x4.extract 0 1)) ++ (⟨#[46]⟩ : ByteArray)).size + (x4.extract 1 x4.size).size ≤ 9223372036854775807 then (if bt309.1.toList = ([48] : List UInt8) then (some y305) else (if (((x3 ++ (x4.extract 0 1)) ++ (⟨#[46]⟩ : ByteArray)) ++ (x4.extract 1 x4.size)).size + 1 ≤ 9223372036854775807 then (if ((((x3 ++ (x4.extract 0 1)) ++ (⟨#[46]⟩ : ByteArray)) ++ (x4.extract 1 x4.size)) ++ (⟨#[101]⟩ : ByteArray)).size + bt309.1.size ≤ 9223372036854775807 then (if y305.length < 8796093022208 then (some (y305 ++ [((((x3 ++ (x4.extract 0 1)) ++ (⟨#[46]⟩ : ByteArray)) ++ (x4.extract 1 x4.size)) ++ (⟨#[101]⟩ : ByteArray)) ++ bt309.1])) else (none)) else (none)) else (none))) else (none)) else (none)) else (none)) else (none)) else (none)))) else (some y305))) else (none)) else (none)) else (none)) else (none)
end
def r1_PlainNum.f (k : Nat) (a0_0 : Bool) (a0_1 : ByteArray) (a0_2 : ByteArray) : Option (List ByteArray) := (r1_RightNum.f k a0_0 a0_1 a0_2).bind fun t288 => (if t288 = true then (if a0_0 = true then (r1_PlainNum.j0 k (⟨#[45]⟩ : ByteArray) a0_0 a0_1 a0_2) else (r1_PlainNum.j0 k (⟨#[]⟩ : ByteArray) a0_0 a0_1 a0_2)) else (some ([] : List ByteArray)))
def r1_PlainNum.T15 : Bool × List (List Nat × List Nat) := (true, [([], []), ([], []), ([], []), ([], []), ([], []), ([3, 4], [3, 4]), ([2, 5], [2, 5]), ([1, 6], [1, 6]), ([7], [7]), ([], []), ([], []), ([], []), ([10, 11], [10, 11]), ([9, 12], [9, 12]), ([8, 13], [8, 13]), ([14], [14]), ([0, 15], [0, 15]), ([16, 16, 0, 1, 2, 3, 4, 5, 6, 7, 8, 9, 10, 11, 12, 13, 14, 15, 16], [0, 16])])
def r1_PlainNum.B15 : List Nat := [0, 0, 0, 0, 0, 24, 60, 126, 254, 0, 0, 0, 3072, 7680, 16382, 32766, 65535, 131071]
theorem r1_PlainNum.tab15 : rtab .any (opsOf Tryz.f14 15) = r1_PlainNum.T15 := by kernel_rfl
theorem r1_PlainNum.bits15 : waitsOk r1_PlainNum.T15.2 r1_PlainNum.B15 = true := by kernel_rfl
def r1_PlainNum.T20 : Bool × List (List Nat × List Nat) := (true, [([], []), ([0], [0]), ([], []), ([2], [2]), ([3], [3]), ([1, 4, 4], [1, 4]), ([5], [5]), ([6], [6]), ([6], [6]), ([7, 5, 0, 1, 2, 3, 4, 5, 6, 7], [7]), ([8, 9, 0, 1, 2, 3, 4, 5, 6, 7, 8, 9], [8])])
def r1_PlainNum.B20 : List Nat := [0, 1, 0, 4, 12, 31, 63, 127, 127, 255, 1023]
theorem r1_PlainNum.tab20 : rtab .any (opsOf Tryz.f14 20) = r1_PlainNum.T20 := by kernel_rfl
theorem r1_PlainNum.bits20 : waitsOk r1_PlainNum.T20.2 r1_PlainNum.B20 = true := by kernel_rfl
def r1_PlainNum.T21 : Bool × List (List Nat × List Nat) := (true, [([], []), ([], []), ([1], [1]), ([0, 2], [0, 2]), ([3], [3]), ([], []), ([5], [5]), ([4, 6], [4, 6]), ([7, 0, 1, 2, 3, 4, 5, 6, 7], [7])])
def r1_PlainNum.B21 : List Nat := [0, 0, 2, 7, 15, 0, 32, 127, 255]
theorem r1_PlainNum.tab21 : rtab .any (opsOf Tryz.f14 21) = r1_PlainNum.T21 := by kernel_rfl
theorem r1_PlainNum.bits21 : waitsOk r1_PlainNum.T21.2 r1_PlainNum.B21 = true := by kernel_rfl
set_option maxHeartbeats 8000000 in
set_option maxRecDepth 100000 in
theorem r1_PlainNum.calls (k : Nat) (a0_0 : Bool) (a0_1 : ByteArray) (a0_2 : ByteArray) (r : List ByteArray) (w : World) (h : r1_PlainNum.f k a0_0 a0_1 a0_2 = some r) :
  Calls Tryz.prog 14 #[.agg #[.bool a0_0, .string a0_1, .string a0_2]] w fun e w' => ∃ v0_ : Value, e = .returned (v0_) ∧ Kd.R Kd.string 9 w' w.heap.size (fun _ => True) v0_ r ∧ Below w.heap.size w w' := by
 have hu23 := Tryz.underlying23
 have HB := Aside0.mk (Below.refl w.heap.size w)
 have H : ((r1_RightNum.f k a0_0 a0_1 a0_2).bind fun t288 => (if t288 = true then (if a0_0 = true then (r1_PlainNum.j0 k (⟨#[45]⟩ : ByteArray) a0_0 a0_1 a0_2) else (r1_PlainNum.j0 k (⟨#[]⟩ : ByteArray) a0_0 a0_1 a0_2)) else (some ([] : List ByteArray)))) = some r := h
 clear h
 replace H := Option.bind_eq_some_iff.mp H
 obtain ⟨t288, A20, H⟩ := H
 replace H : (if t288 = true then (if a0_0 = true then (r1_PlainNum.j0 k (⟨#[45]⟩ : ByteArray) a0_0 a0_1 a0_2) else (r1_PlainNum.j0 k (⟨#[]⟩ : ByteArray) a0_0 a0_1 a0_2)) else (some ([] : List ByteArray))) = some r := H
 have A2 := Aside0.mk A20
 clear A20
 by_cases c3 : t288 = true
 ·subst c3
  have H1 : (if a0_0 = true then (r1_PlainNum.j0 k (⟨#[45]⟩ : ByteArray) a0_0 a0_1 a0_2) else (r1_PlainNum.j0 k (⟨#[]⟩ : ByteArray) a0_0 a0_1 a0_2)) = some r := by rw [if_pos rfl] at H; exact H
  clear H
  have H := H1
  clear H1
  have HC4 := Aside0.mk H
  clear H
  go_enter Tryz.func14, Tryz.ntmps14
  go_upto_if 16 with (first | ((with_reducible refine gate_dst (N := 1) rfl ?_); refine box_event ?hg (N := 1) ?hd (cs := #[.bool a0_0, .string a0_1, .string a0_2]) (t := 23) ?hr ?_; (case hd => rfl); (case hg => rfl); (case hr => first | (go_simp; done) | (go_simp; rfl)); intro gb287 hg w5 hbox hb; have n0_ := Aside0.mk (below_step (by repeat (first | (with_reducible first | exact HB.out | apply below_alloc | apply pw_below_drewN | apply below_drew1) | exact HB.out)) hb); have n1_ := Aside0.mk (hbox); have n2_ := Aside0.mk ((by rw [hg]; exact (below_size (by repeat (first | (with_reducible first | exact HB.out | apply below_alloc | apply pw_below_drewN | apply below_drew1) | exact HB.out))) : w.heap.size ≤ gb287)); have n3_ := Aside0.mk ((by rw [hg]; exact (below_size (by repeat (first | (with_reducible first | exact HB.out | apply below_alloc | apply pw_below_drewN | apply below_drew1) | exact HB.out))) : w.heap.size ≤ gb287)); clear HB; have HB := n0_; have BK287 := n1_; have GW287 := n2_; have GE287 := n3_; clear n0_ n1_ n2_ n3_; clear hb hbox hg; have hcz6_0 : w5.cell? ⟨gb287, 0, none⟩ = some (.bool a0_0) := (blk_cell BK287.out 0).trans rfl; have hcz6_1 : w5.cell? ⟨gb287, 1, none⟩ = some (.string a0_1) := (blk_cell BK287.out 1).trans rfl; have hcz6_2 : w5.cell? ⟨gb287, 2, none⟩ = some (.string a0_2) := (blk_cell BK287.out 2).trans rfl; have hfz6_0 := blk_frozen BK287.out 0; have hfz6_1 := blk_frozen BK287.out 1; have hfz6_2 := blk_frozen BK287.out 2) | ((with_reducible refine gate_callee (f := 11) rfl ?_); refine goesL_ (some 13) rfl rfl Tryz.func11 (by kernel_rfl) rfl #[.agg #[.bool a0_0, .string a0_1, .string a0_2]] rfl (by (try simp only [List.map_toArray, List.map_cons, List.map_nil]); first | done | rfl | (simp only [List.length_drop, List.length_take]; rfl)) ?_; (with_reducible refine (r1_RightNum.calls k a0_0 a0_1 a0_2 true _ A2.out).mono ?_); rintro e w7 ⟨rfl, hb⟩; refine ⟨_, rfl, ?_⟩; have n0_ := Aside0.mk (blk_below (g := gb287) (o := .cells #[.bool a0_0, .string a0_1, .string a0_2] 23 (0, 0)) (by (with_reducible repeat (first | refine blk_drewN ?_ _ | refine blk_drew ?_ | refine blk_alloc ?_ _)); exact BK287.out) hb); have n1_ := Aside0.mk (below_step (by repeat (first | (with_reducible first | exact HB.out | apply below_alloc | apply pw_below_drewN | apply below_drew1 | refine below_set ?_ GE287.out) | exact HB.out)) hb); clear BK287; clear HB; have BK287 := n0_; have HB := n1_; clear n0_ n1_; (try clear hb); (try clear hb2); (try clear hk); (try clear hi); have hcz8_0 : w7.cell? ⟨gb287, 0, none⟩ = some (.bool a0_0) := (blk_cell BK287.out 0).trans rfl; have hcz8_1 : w7.cell? ⟨gb287, 1, none⟩ = some (.string a0_1) := (blk_cell BK287.out 1).trans rfl; have hcz8_2 : w7.cell? ⟨gb287, 2, none⟩ = some (.string a0_2) := (blk_cell BK287.out 2).trans rfl; have hfz8_0 := blk_frozen BK287.out 0; have hfz8_1 := blk_frozen BK287.out 1; have hfz8_2 := blk_frozen BK287.out 2))
  (try simp only [Act.put, List.setIfInBounds_toArray, List.set_cons_zero, List.set_cons_succ])
  go_cut [3] (fun v3 wc => ∃ (kq : Nat) (x3_3 : ByteArray), v3 = .string x3_3 ∧ Aside0 (r1_PlainNum.j0 kq x3_3 a0_0 a0_1 a0_2 = some r) ∧ Aside0 (kq ≤ k) ∧ Aside0 (wc.heap[gb287]? = some (.cells #[.bool a0_0, .string a0_1, .string a0_2] 23 (0, 0))) ∧ Aside0 (Below w.heap.size w wc))
  case first => as_aux_lemma =>
   have H := HC4.out
   clear HC4
   by_cases c9 : a0_0 = true
   ·subst c9
    have H1 : (r1_PlainNum.j0 k (⟨#[45]⟩ : ByteArray) true a0_1 a0_2) = some r := by rw [if_pos rfl] at H; exact H
    clear H
    have H := H1
    clear H1
    have H' := Aside0.mk H
    clear H
    go_wp2
    go_meet
    case rel => exact ⟨_, ((⟨#[45]⟩ : ByteArray)), (by first | rfl | (simp; done) | (simp [bne_nil_]; done) | (simp [*]; done) | (simp [wrap64]; done) | (refine congrArg (Value.int .i64) ?_; unfold wrap64; omega)), H', ⟨by first | omega | exact Nat.le_refl _⟩, ⟨by (with_reducible repeat (first | refine blk_drewN ?_ _ | refine blk_drew ?_ | refine blk_alloc ?_ _)); exact BK287.out⟩, ⟨by repeat (first | (with_reducible first | exact HB.out | apply below_alloc | apply pw_below_drewN | apply below_drew1 | refine below_set ?_ GE287.out) | exact HB.out)⟩⟩
   ·replace c9 := Bool.eq_false_iff.mpr c9
    subst c9
    have H1 : (r1_PlainNum.j0 k (⟨#[]⟩ : ByteArray) false a0_1 a0_2) = some r := by rw [if_neg (show ¬ (false = true) by decide)] at H; exact H
    clear H
    have H := H1
    clear H1
    have H' := Aside0.mk H
    clear H
    go_wp2
    go_meet
    case rel => exact ⟨_, ((⟨#[]⟩ : ByteArray)), (by first | rfl | (simp; done) | (simp [bne_nil_]; done) | (simp [*]; done) | (simp [wrap64]; done) | (refine congrArg (Value.int .i64) ?_; unfold wrap64; omega)), H', ⟨by first | omega | exact Nat.le_refl _⟩, ⟨by (with_reducible repeat (first | refine blk_drewN ?_ _ | refine blk_drew ?_ | refine blk_alloc ?_ _)); exact BK287.out⟩, ⟨by repeat (first | (with_reducible first | exact HB.out | apply below_alloc | apply pw_below_drewN | apply below_drew1 | refine below_set ?_ GE287.out) | exact HB.out)⟩⟩
  case rest => as_aux_lemma =>
   clear HC4
   try clear c1
   try clear p2
   try clear c3
   try clear p6
   try clear c9
   try clear hcz6_0
   try clear hcz6_1
   try clear hcz6_2
   try clear hcz8_0
   try clear hcz8_1
   try clear hcz8_2
   try clear hfz6_0
   try clear hfz6_1
   try clear hfz6_2
   try clear hfz8_0
   try clear hfz8_1
   try clear hfz8_2
   obtain ⟨kq, x3_3, rfl, HA, HJ3, BK287, HB⟩ := hcut
   cases kq with
   | zero => exact absurd HA.out (by simp [r1_PlainNum.j0])
   | succ kj3 =>
    have H := HA.out
    clear HA
    simp only [r1_PlainNum.j0] at H
    by_cases c10 : a0_1.toList = ([] : List UInt8)
    ·rw [if_pos c10] at H
     have c10b0 : (a0_1.toList == ([] : List UInt8)) = true := beq_iff_eq.mpr c10
     have c10b1 : (a0_1.toList != ([] : List UInt8)) = false := bne_eq_false_iff_eq.mpr c10
     have c10b2 : a0_1.toList.isEmpty = true := by rw [c10]; rfl
     have c10b3 : (!a0_1.toList.isEmpty) = false := by rw [c10]; rfl
     clear c10
     by_cases c11 : x3_3.size + 1 ≤ 9223372036854775807
     ·rw [if_pos c11] at H
      have c11b0 := eq_true c11
      have c11b1 : decide (x3_3.size + 1 ≤ 9223372036854775807) = true := decide_eq_true c11
      try have c11b2 : (9223372036854775807 < x3_3.size + 1) = False := eq_false (Nat.not_lt.2 c11)
      obtain ⟨y289, hy289⟩ : ∃ y_ : List ByteArray, y_ = (([x3_3 ++ (⟨#[48]⟩ : ByteArray)] : List ByteArray)) := ⟨_, rfl⟩
      replace H : (some y289) = some r := by first | (rw [hy289]; with_reducible exact H) | (have H2_ := (Option.bind_some _ _).symm.trans H; rw [hy289]; with_reducible exact H2_) | (have H2_ := (Option.bind_some _ _).symm.trans H; with_reducible exact H2_) | with_reducible exact H | (rw [hy289]; exact H) | exact H
      have Ny289 := Aside0.mk hy289
      clear hy289
      obtain rfl := Option.some.inj H
      have hcz12_0 : wc.cell? ⟨gb287, 0, none⟩ = some (.bool a0_0) := (blk_cell BK287.out 0).trans rfl
      have hcz12_1 : wc.cell? ⟨gb287, 1, none⟩ = some (.string a0_1) := (blk_cell BK287.out 1).trans rfl
      have hcz12_2 : wc.cell? ⟨gb287, 2, none⟩ = some (.string a0_2) := (blk_cell BK287.out 2).trans rfl
      have hfz12_0 := blk_frozen BK287.out 0
      have hfz12_1 := blk_frozen BK287.out 1
      have hfz12_2 := blk_frozen BK287.out 2
      go_wp2_with (first | ((with_reducible refine gate_dst (N := 23) rfl ?_); refine Kd.R_lit Kd.string _ 9 ?hg (N := 23) ?hd (xs := ([x3_3 ++ (⟨#[48]⟩ : ByteArray)] : List ByteArray)) (inner := [.string (x3_3 ++ (⟨#[48]⟩ : ByteArray))]) (ok := fun _ => True) (okp := fun _ => True) ?hr ?hp (fun _ hk => hk) trivial (Below.refl _ _) (Nat.le_refl _) (by simp) ?_; (case hd => rfl); (case hg => rfl); (case hr => first | (go_simp; done) | (go_simp; rfl)); (case hp => exact (Reps.one (show Kd.M Kd.string _ _ _ (x3_3 ++ (⟨#[48]⟩ : ByteArray)) [.string (x3_3 ++ (⟨#[48]⟩ : ByteArray))] from rfl) (Reps.none _ _))); intro v290 w13 ho14 hb hg_ hnew_; clear hg_ hnew_; (first | rw [← Ny289.out] at ho14 | (simp only [Int.reduceToNat] at ho14; rw [← Ny289.out] at ho14)); have n0_ := Aside0.mk (Kd.R_lower ho14 (below_size (by repeat (first | (with_reducible first | exact HB.out | apply below_alloc | apply pw_below_drewN | apply below_drew1 | refine below_set ?_ GE287.out) | exact HB.out)))); have n1_ := Aside0.mk (blk_below (g := gb287) (o := .cells #[.bool a0_0, .string a0_1, .string a0_2] 23 (0, 0)) (by (with_reducible repeat (first | refine blk_drewN ?_ _ | refine blk_drew ?_ | refine blk_alloc ?_ _)); exact BK287.out) hb); have n2_ := Aside0.mk (below_step (by repeat (first | (with_reducible first | exact HB.out | apply below_alloc | apply pw_below_drewN | apply below_drew1 | refine below_set ?_ GE287.out) | exact HB.out)) hb); clear BK287; clear HB; have HO291 := n0_; have BK287 := n1_; have HB := n2_; clear n0_ n1_ n2_; clear hb ho14))
      go_ret
      exact ⟨_, by first | rfl | (simp [errW_none, errW_some] <;> rfl) | (simp [*, errW_none, errW_some] <;> rfl), by (with_reducible repeat (first | apply Kd.R_alloc | apply Kd.R_drewN | apply Kd.R_drew)); exact HO291.out, by repeat (first | (with_reducible first | exact HB.out | apply below_alloc | apply pw_below_drewN | apply below_drew1 | refine below_set ?_ GE287.out) | exact HB.out)⟩
     ·rw [if_neg c11] at H
      exact absurd H (by simp)
    ·rw [if_neg c10] at H
     have c10b0 : (a0_1.toList == ([] : List UInt8)) = false := beq_eq_false_iff_ne.mpr c10
     have c10b1 : (a0_1.toList != ([] : List UInt8)) = true := bne_iff_ne.mpr c10
     have c10b2 : a0_1.toList.isEmpty = false := by simpa using c10
     have c10b3 : (!a0_1.toList.isEmpty) = true := by simpa using c10
     replace H := Option.bind_eq_some_iff.mp H
     obtain ⟨⟨t292, t293⟩, A150, H⟩ := H
     replace H : (if t293 = true then (if t292 ≥ 0 then (r1_PlainNum.j1 kj3 x3_3 a0_1 ([] : List ByteArray) t292 t293 (a0_1.size : Int) (decide (t292 ≤ 20)) a0_0 a0_1 a0_2) else (r1_PlainNum.j1 kj3 x3_3 a0_1 ([] : List ByteArray) t292 t293 (a0_1.size : Int) false a0_0 a0_1 a0_2)) else (r1_PlainNum.j1 kj3 x3_3 a0_1 ([] : List ByteArray) t292 t293 (a0_1.size : Int) false a0_0 a0_1 a0_2)) = some r := H
     have A15 := Aside0.mk A150
     clear A150
     have HC16 := Aside0.mk H
     clear H
     have hcz17_0 : wc.cell? ⟨gb287, 0, none⟩ = some (.bool a0_0) := (blk_cell BK287.out 0).trans rfl
     have hcz17_1 : wc.cell? ⟨gb287, 1, none⟩ = some (.string a0_1) := (blk_cell BK287.out 1).trans rfl
     have hcz17_2 : wc.cell? ⟨gb287, 2, none⟩ = some (.string a0_2) := (blk_cell BK287.out 2).trans rfl
     have hfz17_0 := blk_frozen BK287.out 0
     have hfz17_1 := blk_frozen BK287.out 1
     have hfz17_2 := blk_frozen BK287.out 2
     go_upto_region 12 with (first | ((with_reducible refine gate_callee (f := 34) rfl ?_); refine goesL_ (some 27) rfl rfl Tryz.func34 (by kernel_rfl) rfl #[.string a0_2] rfl (by (try simp only [List.map_toArray, List.map_cons, List.map_nil]); first | done | rfl | (simp only [List.length_drop, List.length_take]; rfl)) ?_; (with_reducible refine (r1_Int.calls kj3 a0_2 t292 t293 _ A15.out).mono ?_); rintro e w' ⟨rfl, ⟨nd, rfl⟩⟩; refine ⟨_, rfl, ?_⟩))
     (try simp only [Act.put, List.setIfInBounds_toArray, List.set_cons_zero, List.set_cons_succ])
     go_cut [40] (fun v40 wc => ∃ (kq : Nat) (x40_15 : Bool), v40 = .bool x40_15 ∧ Aside0 (r1_PlainNum.j1 kq x3_3 a0_1 ([] : List ByteArray) t292 t293 (a0_1.size : Int) x40_15 a0_0 a0_1 a0_2 = some r) ∧ Aside0 (kq ≤ kj3) ∧ Aside0 (Kd.R Kd.string 9 wc w.heap.size (fun _ => True) (.slice none 0 0) ([] : List ByteArray)) ∧ Aside0 (wc.heap[gb287]? = some (.cells #[.bool a0_0, .string a0_1, .string a0_2] 23 (0, 0))) ∧ Aside0 (Below w.heap.size w wc))
     case first => as_aux_lemma =>
      have H := HC16.out
      clear HC16
      by_cases c18 : t293 = true
      ·subst c18
       have H1 : (if t292 ≥ 0 then (r1_PlainNum.j1 kj3 x3_3 a0_1 ([] : List ByteArray) t292 true (a0_1.size : Int) (decide (t292 ≤ 20)) a0_0 a0_1 a0_2) else (r1_PlainNum.j1 kj3 x3_3 a0_1 ([] : List ByteArray) t292 true (a0_1.size : Int) false a0_0 a0_1 a0_2)) = some r := by rw [if_pos rfl] at H; exact H
       clear H
       have H := H1
       clear H1
       by_cases c19 : t292 ≥ 0
       ·rw [if_pos c19] at H
        have c19b0 : decide (0 ≤ t292) = true := decide_eq_true c19
        clear c19
        (first | rw [c19b0] | (simp only [i64_w, i32_w]; rw [c19b0]) | skip)
        have H' := Aside0.mk H
        clear H
        go_wp2
        go_meet
        case rel => exact ⟨_, (decide (t292 ≤ 20)), (by first | rfl | (simp; done) | (simp [bne_nil_]; done) | (simp [*]; done) | (simp [wrap64]; done) | (refine congrArg (Value.int .i64) ?_; unfold wrap64; omega)), H', ⟨by have := HJ3.out; first | omega | exact Nat.le_refl _⟩, ⟨by first | exact Kd.R_nil _ _ _ _ _ | exact Kd.N_nil _ _ _ _ _ | exact Kd.V_nil _ _ _ _ _ | exact Kd.Q_nil _ _ _ _ _ | exact Kd.S_nil _ _ _ _ _⟩, ⟨by (with_reducible repeat (first | refine blk_drewN ?_ _ | refine blk_drew ?_ | refine blk_alloc ?_ _)); exact BK287.out⟩, ⟨by repeat (first | (with_reducible first | exact HB.out | apply below_alloc | apply pw_below_drewN | apply below_drew1 | refine below_set ?_ GE287.out) | exact HB.out)⟩⟩
       ·rw [if_neg c19] at H
        have c19b0 : decide (0 ≤ t292) = false := decide_eq_false c19
        clear c19
        (first | rw [c19b0] | (simp only [i64_w, i32_w]; rw [c19b0]) | skip)
        have H' := Aside0.mk H
        clear H
        go_wp2
        go_meet
        case rel => exact ⟨_, (false), (by first | rfl | (simp; done) | (simp [bne_nil_]; done) | (simp [*]; done) | (simp [wrap64]; done) | (refine congrArg (Value.int .i64) ?_; unfold wrap64; omega)), H', ⟨by have := HJ3.out; first | omega | exact Nat.le_refl _⟩, ⟨by first | exact Kd.R_nil _ _ _ _ _ | exact Kd.N_nil _ _ _ _ _ | exact Kd.V_nil _ _ _ _ _ | exact Kd.Q_nil _ _ _ _ _ | exact Kd.S_nil _ _ _ _ _⟩, ⟨by (with_reducible repeat (first | refine blk_drewN ?_ _ | refine blk_drew ?_ | refine blk_alloc ?_ _)); exact BK287.out⟩, ⟨by repeat (first | (with_reducible first | exact HB.out | apply below_alloc | apply pw_below_drewN | apply below_drew1 | refine below_set ?_ GE287.out) | exact HB.out)⟩⟩
      ·replace c18 := Bool.eq_false_iff.mpr c18
       subst c18
       have H1 : (r1_PlainNum.j1 kj3 x3_3 a0_1 ([] : List ByteArray) t292 false (a0_1.size : Int) false a0_0 a0_1 a0_2) = some r := by rw [if_neg (show ¬ (false = true) by decide)] at H; exact H
       clear H
       have H := H1
       clear H1
       have H' := Aside0.mk H
       clear H
       go_wp2
       go_meet
       case rel => exact ⟨_, (false), (by first | rfl | (simp; done) | (simp [bne_nil_]; done) | (simp [*]; done) | (simp [wrap64]; done) | (refine congrArg (Value.int .i64) ?_; unfold wrap64; omega)), H', ⟨by have := HJ3.out; first | omega | exact Nat.le_refl _⟩, ⟨by first | exact Kd.R_nil _ _ _ _ _ | exact Kd.N_nil _ _ _ _ _ | exact Kd.V_nil _ _ _ _ _ | exact Kd.Q_nil _ _ _ _ _ | exact Kd.S_nil _ _ _ _ _⟩, ⟨by (with_reducible repeat (first | refine blk_drewN ?_ _ | refine blk_drew ?_ | refine blk_alloc ?_ _)); exact BK287.out⟩, ⟨by repeat (first | (with_reducible first | exact HB.out | apply below_alloc | apply pw_below_drewN | apply below_drew1 | refine below_set ?_ GE287.out) | exact HB.out)⟩⟩
     case rest => as_aux_lemma =>
      clear HC16
      try clear c1
      try clear p2
      try clear c3
      try clear p6
      try clear c9
      try clear c10
      try clear c10b0
      try clear c10b1
      try clear c10b2
      try clear c11
      try clear c11b0
      try clear c11b1
      try clear c11b2
      try clear c14
      try clear c18
      try clear c19
      try clear c19b0
      try clear hcz12_0
      try clear hcz12_1
      try clear hcz12_2
      try clear hcz17_0
      try clear hcz17_1
      try clear hcz17_2
      try clear hcz6_0
      try clear hcz6_1
      try clear hcz6_2
      try clear hcz8_0
      try clear hcz8_1
      try clear hcz8_2
      try clear hfz12_0
      try clear hfz12_1
      try clear hfz12_2
      try clear hfz17_0
      try clear hfz17_1
      try clear hfz17_2
      try clear hfz6_0
      try clear hfz6_1
      try clear hfz6_2
      try clear hfz8_0
      try clear hfz8_1
      try clear hfz8_2
      try clear p2
      try clear p6
      obtain ⟨kq, x40_15, rfl, HA, HJ15, HO_5, BK287, HB⟩ := hcut
      cases kq with
      | zero => exact absurd HA.out (by simp [r1_PlainNum.j1])
      | succ kj15 =>
       have H := HA.out
       clear HA
       simp only [r1_PlainNum.j1] at H
       have HC20 := Aside0.mk H
       clear H
       go_upto_if 40 with (fail)
       go_cut [5] (fun v5 wc => ∃ (kq : Nat) (x5_19 : List ByteArray), Aside0 (r1_PlainNum.j2 kq x3_3 a0_1 x5_19 t292 t293 (a0_1.size : Int) a0_0 a0_1 a0_2 = some r) ∧ Aside0 (kq ≤ kj15) ∧ Aside0 (Kd.R Kd.string 9 wc w.heap.size (fun _ => True) v5 x5_19) ∧ Aside0 (wc.heap[gb287]? = some (.cells #[.bool a0_0, .string a0_1, .string a0_2] 23 (0, 0))) ∧ Aside0 (Below w.heap.size w wc))
       case first => as_aux_lemma =>
        have H := HC20.out
        clear HC20
        by_cases c21 : x40_15 = true
        ·subst c21
         have H1 : (if x3_3.size + a0_1.size ≤ 9223372036854775807 then ((r1_noughts.f kj15 t292).bind fun t294 => (if (x3_3 ++ a0_1).size + t294.size ≤ 9223372036854775807 then (if ([] : List ByteArray).length < 8796093022208 then (r1_PlainNum.j2 kj15 x3_3 a0_1 (([] : List ByteArray) ++ [(x3_3 ++ a0_1) ++ t294]) t292 t293 (a0_1.size : Int) a0_0 a0_1 a0_2) else (none)) else (none))) else (none)) = some r := by rw [if_pos rfl] at H; exact H
         clear H
         have H := H1
         clear H1
         by_cases c22 : x3_3.size + a0_1.size ≤ 9223372036854775807
         ·rw [if_pos c22] at H
          have c22b0 := eq_true c22
          have c22b1 : decide (x3_3.size + a0_1.size ≤ 9223372036854775807) = true := decide_eq_true c22
          try have c22b2 : (9223372036854775807 < x3_3.size + a0_1.size) = False := eq_false (Nat.not_lt.2 c22)
          replace H := Option.bind_eq_some_iff.mp H
          obtain ⟨t294, A230, H⟩ := H
          replace H : (if (x3_3 ++ a0_1).size + t294.size ≤ 9223372036854775807 then (if ([] : List ByteArray).length < 8796093022208 then (r1_PlainNum.j2 kj15 x3_3 a0_1 (([] : List ByteArray) ++ [(x3_3 ++ a0_1) ++ t294]) t292 t293 (a0_1.size : Int) a0_0 a0_1 a0_2) else (none)) else (none)) = some r := H
          have A23 := Aside0.mk A230
          clear A230
          by_cases c24 : (x3_3 ++ a0_1).size + t294.size ≤ 9223372036854775807
          ·rw [if_pos c24] at H
           have c24b0 := eq_true c24
           have c24b1 : decide ((x3_3 ++ a0_1).size + t294.size ≤ 9223372036854775807) = true := decide_eq_true c24
           try have c24b2 : (9223372036854775807 < (x3_3 ++ a0_1).size + t294.size) = False := eq_false (Nat.not_lt.2 c24)
           (try (have c24b3 : (9223372036854775807 < x3_3.size + a0_1.size + t294.size) = False := eq_false (Nat.not_lt.2 (by have h_ := c24; (try simp only [ByteArray.size_append, ByteArray.size_extract] at h_); (try simp only [decide_eq_true_eq] at *); omega))))
           by_cases c25 : ([] : List ByteArray).length < 8796093022208
           ·rw [if_pos c25] at H
            have LMc25 := Aside0.mk c25
            clear c25
            obtain ⟨y295, hy295⟩ : ∃ y_ : List ByteArray, y_ = (([] : List ByteArray) ++ [(x3_3 ++ a0_1) ++ t294]) := ⟨_, rfl⟩
            replace H : (r1_PlainNum.j2 kj15 x3_3 a0_1 y295 t292 t293 (a0_1.size : Int) a0_0 a0_1 a0_2) = some r := by first | (rw [hy295]; with_reducible exact H) | (have H2_ := (Option.bind_some _ _).symm.trans H; rw [hy295]; with_reducible exact H2_) | (have H2_ := (Option.bind_some _ _).symm.trans H; with_reducible exact H2_) | with_reducible exact H | (rw [hy295]; exact H) | exact H
            have Ny295 := Aside0.mk hy295
            clear hy295
            have H' := Aside0.mk H
            clear H
            go_wp2_with (first | ((with_reducible refine gate_callee (f := 35) rfl ?_); refine goesL_ (some 46) rfl rfl Tryz.func35 (by kernel_rfl) rfl #[.int .i64 t292] rfl (by (try simp only [List.map_toArray, List.map_cons, List.map_nil]); first | done | rfl | (simp only [List.length_drop, List.length_take]; rfl)) ?_; (with_reducible refine (r1_noughts.calls kj15 t292 t294 _ A23.out).mono ?_); rintro e w' ⟨rfl, ⟨nd, rfl⟩⟩; refine ⟨_, rfl, ?_⟩) | ((with_reducible refine gate_builtin (b := .append) (xs := #[.tmp 41, .tmp 48]) rfl ?_); at_builtin; refine Kd.R_append Kd.string (w0 := w) w.heap.size rfl (.tmp 41) (.tmp 48) 29 9 (.string ⟨#[]⟩) 16 rfl Tryz.underlying29 info9 rfl (by decide) (by omega) (.slice none 0 0) ([] : List ByteArray) ((x3_3 ++ a0_1) ++ t294) [.string ((x3_3 ++ a0_1) ++ t294)] (fun _ => True) (fun _ => False) rfl rfl ?aP (fun _ hk => hk.elim) ?aF ?aO ?aB ?aS ?aL ?_; (case aP => exact rfl); (case aB => exact (by repeat (first | (with_reducible first | exact HB.out | apply below_alloc | apply pw_below_drewN | apply below_drew1 | refine below_set ?_ GE287.out) | exact HB.out))); (case aF => exact (fun _ _ => trivial)); (case aO => exact (by (with_reducible repeat (first | apply Kd.R_alloc | apply Kd.R_drewN | apply Kd.R_drew)); exact HO_5.out)); (case aS => exact (below_size (by repeat (first | (with_reducible first | exact HB.out | apply below_alloc | apply pw_below_drewN | apply below_drew1 | refine below_set ?_ GE287.out) | exact HB.out)))); (case aL => have := LMc25.out; omega); intro v296 w26 ho hb hg hat; rw [← Ny295.out] at ho; have n0_ := Aside0.mk (blk_grown (g := gb287) (o := .cells #[.bool a0_0, .string a0_1, .string a0_2] 23 (0, 0)) (by (with_reducible repeat (first | refine blk_drewN ?_ _ | refine blk_drew ?_ | refine blk_alloc ?_ _)); exact BK287.out) hg (Kd.R_ne HO_5.out BK287.out (by decide))); have n1_ := Aside0.mk (hb); have n2_ := Aside0.mk (ho); clear BK287; clear HB; clear HO_5; have BK287 := n0_; have HB := n1_; have HO297 := n2_; clear n0_ n1_ n2_; clear ho hb hg hat))
            go_meet
            case rel => exact ⟨_, (y295), H', ⟨by have := HJ3.out; have := HJ15.out; first | omega | exact Nat.le_refl _⟩, ⟨by (with_reducible repeat (first | apply Kd.R_alloc | apply Kd.R_drewN | apply Kd.R_drew)); exact HO297.out⟩, ⟨by (with_reducible repeat (first | refine blk_drewN ?_ _ | refine blk_drew ?_ | refine blk_alloc ?_ _)); exact BK287.out⟩, ⟨by repeat (first | (with_reducible first | exact HB.out | apply below_alloc | apply pw_below_drewN | apply below_drew1 | refine below_set ?_ GE287.out) | exact HB.out)⟩⟩
           ·rw [if_neg c25] at H
            exact absurd H (by simp)
          ·rw [if_neg c24] at H
           exact absurd H (by simp)
         ·rw [if_neg c22] at H
          exact absurd H (by simp)
        ·replace c21 := Bool.eq_false_iff.mpr c21
         subst c21
         have H1 : (r1_PlainNum.j2 kj15 x3_3 a0_1 ([] : List ByteArray) t292 t293 (a0_1.size : Int) a0_0 a0_1 a0_2) = some r := by rw [if_neg (show ¬ (false = true) by decide)] at H; exact H
         clear H
         have H := H1
         clear H1
         have H' := Aside0.mk H
         clear H
         go_wp2
         go_meet
         case rel => exact ⟨_, (([] : List ByteArray)), H', ⟨by have := HJ3.out; have := HJ15.out; first | omega | exact Nat.le_refl _⟩, ⟨by (with_reducible repeat (first | apply Kd.R_alloc | apply Kd.R_drewN | apply Kd.R_drew)); exact HO_5.out⟩, ⟨by (with_reducible repeat (first | refine blk_drewN ?_ _ | refine blk_drew ?_ | refine blk_alloc ?_ _)); exact BK287.out⟩, ⟨by repeat (first | (with_reducible first | exact HB.out | apply below_alloc | apply pw_below_drewN | apply below_drew1 | refine below_set ?_ GE287.out) | exact HB.out)⟩⟩
       case rest => as_aux_lemma =>
        clear HC20
        try clear c1
        try clear c2
        try clear p2
        try clear c3
        try clear p6
        try clear c9
        try clear c10
        try clear c10b0
        try clear c10b1
        try clear c10b2
        try clear c11
        try clear c11b0
        try clear c11b1
        try clear c11b2
        try clear c14
        try clear c18
        try clear c19
        try clear c19b0
        try clear c21
        try clear c22
        try clear c22b0
        try clear c22b1
        try clear c22b2
        try clear c24
        try clear c24b0
        try clear c24b1
        try clear c24b2
        try clear c25
        try clear hcz12_0
        try clear hcz12_1
        try clear hcz12_2
        try clear hcz17_0
        try clear hcz17_1
        try clear hcz17_2
        try clear hcz6_0
        try clear hcz6_1
        try clear hcz6_2
        try clear hcz8_0
        try clear hcz8_1
        try clear hcz8_2
        try clear hfz12_0
        try clear hfz12_1
        try clear hfz12_2
        try clear hfz17_0
        try clear hfz17_1
        try clear hfz17_2
        try clear hfz6_0
        try clear hfz6_1
        try clear hfz6_2
        try clear hfz8_0
        try clear hfz8_1
        try clear hfz8_2
        try clear p2
        try clear p6
        obtain ⟨kq, x5_19, HA, HJ19, HO_5, BK287, HB⟩ := hcut
        cases kq with
        | zero => exact absurd HA.out (by simp [r1_PlainNum.j2])
        | succ kj19 =>
         have H := HA.out
         clear HA
         simp only [r1_PlainNum.j2] at H
         have HC27 := Aside0.mk H
         clear H
         go_upto_region 14 with (fail)
         go_cut [60] (fun v60 wc => ∃ (kq : Nat) (x60_26 : Bool), v60 = .bool x60_26 ∧ Aside0 (r1_PlainNum.j3 kq x3_3 a0_1 x5_19 t292 t293 (a0_1.size : Int) x60_26 a0_0 a0_1 a0_2 = some r) ∧ Aside0 (kq ≤ kj19) ∧ Aside0 (Kd.R Kd.string 9 wc w.heap.size (fun _ => True) u5 x5_19) ∧ Aside0 (wc.heap[gb287]? = some (.cells #[.bool a0_0, .string a0_1, .string a0_2] 23 (0, 0))) ∧ Aside0 (Below w.heap.size w wc))
         case first => as_aux_lemma =>
          have H := HC27.out
          clear HC27
          by_cases c28 : t293 = true
          ·subst c28
           have H1 : (if t292 < 0 then (r1_PlainNum.j3 kj19 x3_3 a0_1 x5_19 t292 true (a0_1.size : Int) (decide (t292 > (wrap64 (-(a0_1.size : Int))))) a0_0 a0_1 a0_2) else (r1_PlainNum.j3 kj19 x3_3 a0_1 x5_19 t292 true (a0_1.size : Int) false a0_0 a0_1 a0_2)) = some r := by rw [if_pos rfl] at H; exact H
           clear H
           have H := H1
           clear H1
           by_cases c29 : t292 < 0
           ·rw [if_pos c29] at H
            have c29b0 : decide (t292 < 0) = true := decide_eq_true c29
            clear c29
            (first | rw [c29b0] | (simp only [i64_w, i32_w]; rw [c29b0]) | skip)
            have H' := Aside0.mk H
            clear H
            go_wp2
            go_meet
            case rel => exact ⟨_, (decide (t292 > (wrap64 (-(a0_1.size : Int))))), (by first | rfl | (simp; done) | (simp [bne_nil_]; done) | (simp [*]; done) | (simp [wrap64]; done) | (refine congrArg (Value.int .i64) ?_; unfold wrap64; omega)), H', ⟨by have := HJ3.out; have := HJ15.out; have := HJ19.out; first | omega | exact Nat.le_refl _⟩, ⟨by (with_reducible repeat (first | apply Kd.R_alloc | apply Kd.R_drewN | apply Kd.R_drew)); exact HO_5.out⟩, ⟨by (with_reducible repeat (first | refine blk_drewN ?_ _ | refine blk_drew ?_ | refine blk_alloc ?_ _)); exact BK287.out⟩, ⟨by repeat (first | (with_reducible first | exact HB.out | apply below_alloc | apply pw_below_drewN | apply below_drew1 | refine below_set ?_ GE287.out) | exact HB.out)⟩⟩
           ·rw [if_neg c29] at H
            have c29b0 : decide (t292 < 0) = false := decide_eq_false c29
            clear c29
            (first | rw [c29b0] | (simp only [i64_w, i32_w]; rw [c29b0]) | skip)
            have H' := Aside0.mk H
            clear H
            go_wp2
            go_meet
            case rel => exact ⟨_, (false), (by first | rfl | (simp; done) | (simp [bne_nil_]; done) | (simp [*]; done) | (simp [wrap64]; done) | (refine congrArg (Value.int .i64) ?_; unfold wrap64; omega)), H', ⟨by have := HJ3.out; have := HJ15.out; have := HJ19.out; first | omega | exact Nat.le_refl _⟩, ⟨by (with_reducible repeat (first | apply Kd.R_alloc | apply Kd.R_drewN | apply Kd.R_drew)); exact HO_5.out⟩, ⟨by (with_reducible repeat (first | refine blk_drewN ?_ _ | refine blk_drew ?_ | refine blk_alloc ?_ _)); exact BK287.out⟩, ⟨by repeat (first | (with_reducible first | exact HB.out | apply below_alloc | apply pw_below_drewN | apply below_drew1 | refine below_set ?_ GE287.out) | exact HB.out)⟩⟩
          ·replace c28 := Bool.eq_false_iff.mpr c28
           subst c28
           have H1 : (r1_PlainNum.j3 kj19 x3_3 a0_1 x5_19 t292 false (a0_1.size : Int) false a0_0 a0_1 a0_2) = some r := by rw [if_neg (show ¬ (false = true) by decide)] at H; exact H
           clear H
           have H := H1
           clear H1
           have H' := Aside0.mk H
           clear H
           go_wp2
           go_meet
           case rel => exact ⟨_, (false), (by first | rfl | (simp; done) | (simp [bne_nil_]; done) | (simp [*]; done) | (simp [wrap64]; done) | (refine congrArg (Value.int .i64) ?_; unfold wrap64; omega)), H', ⟨by have := HJ3.out; have := HJ15.out; have := HJ19.out; first | omega | exact Nat.le_refl _⟩, ⟨by (with_reducible repeat (first | apply Kd.R_alloc | apply Kd.R_drewN | apply Kd.R_drew)); exact HO_5.out⟩, ⟨by (with_reducible repeat (first | refine blk_drewN ?_ _ | refine blk_drew ?_ | refine blk_alloc ?_ _)); exact BK287.out⟩, ⟨by repeat (first | (with_reducible first | exact HB.out | apply below_alloc | apply pw_below_drewN | apply below_drew1 | refine below_set ?_ GE287.out) | exact HB.out)⟩⟩
         case rest => as_aux_lemma =>
          clear HC27
          try clear c1
          try clear c2
          try clear p2
          try clear c3
          try clear p6
          try clear c9
          try clear c10
          try clear c10b0
          try clear c10b1
          try clear c10b2
          try clear c11
          try clear c11b0
          try clear c11b1
          try clear c11b2
          try clear c14
          try clear c18
          try clear c19
          try clear c19b0
          try clear c21
          try clear c22
          try clear c22b0
          try clear c22b1
          try clear c22b2
          try clear c24
          try clear c24b0
          try clear c24b1
          try clear c24b2
          try clear c25
          try clear c28
          try clear c29
          try clear c29b0
          try clear hcz12_0
          try clear hcz12_1
          try clear hcz12_2
          try clear hcz17_0
          try clear hcz17_1
          try clear hcz17_2
          try clear hcz6_0
          try clear hcz6_1
          try clear hcz6_2
          try clear hcz8_0
          try clear hcz8_1
          try clear hcz8_2
          try clear hfz12_0
          try clear hfz12_1
          try clear hfz12_2
          try clear hfz17_0
          try clear hfz17_1
          try clear hfz17_2
          try clear hfz6_0
          try clear hfz6_1
          try clear hfz6_2
          try clear hfz8_0
          try clear hfz8_1
          try clear hfz8_2
          try clear p2
          try clear p6
          obtain ⟨kq, x60_26, rfl, HA, HJ26, HO_5, BK287, HB⟩ := hcut
          cases kq with
          | zero => exact absurd HA.out (by simp [r1_PlainNum.j3])
          | succ kj26 =>
           have H := HA.out
           clear HA
           simp only [r1_PlainNum.j3] at H
           have HC30 := Aside0.mk H
           clear H
           go_upto_if 60 with (fail)
           go_cut [5] (fun v5 wc => ∃ (kq : Nat) (x5_29 : List ByteArray), Aside0 (r1_PlainNum.j4 kq x3_3 a0_1 x5_29 t292 t293 (a0_1.size : Int) a0_0 a0_1 a0_2 = some r) ∧ Aside0 (kq ≤ kj26) ∧ Aside0 (Kd.R Kd.string 9 wc w.heap.size (fun _ => True) v5 x5_29) ∧ Aside0 (wc.heap[gb287]? = some (.cells #[.bool a0_0, .string a0_1, .string a0_2] 23 (0, 0))) ∧ Aside0 (Below w.heap.size w wc))
           case first => as_aux_lemma =>
            have H := HC30.out
            clear HC30
            by_cases c31 : x60_26 = true
            ·subst c31
             have H1 : (if 0 ≤ (wrap64 ((a0_1.size : Int) + t292)) then (if (wrap64 ((a0_1.size : Int) + t292)) ≤ (a0_1.size : Int) then (if x3_3.size + (a0_1.extract 0 ((wrap64 ((a0_1.size : Int) + t292)) : Int).toNat).size ≤ 9223372036854775807 then (if (x3_3 ++ (a0_1.extract 0 ((wrap64 ((a0_1.size : Int) + t292)) : Int).toNat)).size + 1 ≤ 9223372036854775807 then (if ((x3_3 ++ (a0_1.extract 0 ((wrap64 ((a0_1.size : Int) + t292)) : Int).toNat)) ++ (⟨#[46]⟩ : ByteArray)).size + (a0_1.extract ((wrap64 ((a0_1.size : Int) + t292)) : Int).toNat a0_1.size).size ≤ 9223372036854775807 then (if x5_19.length < 8796093022208 then (r1_PlainNum.j4 kj26 x3_3 a0_1 (x5_19 ++ [((x3_3 ++ (a0_1.extract 0 ((wrap64 ((a0_1.size : Int) + t292)) : Int).toNat)) ++ (⟨#[46]⟩ : ByteArray)) ++ (a0_1.extract ((wrap64 ((a0_1.size : Int) + t292)) : Int).toNat a0_1.size)]) t292 t293 (a0_1.size : Int) a0_0 a0_1 a0_2) else (none)) else (none)) else (none)) else (none)) else (none)) else (none)) = some r := by rw [if_pos rfl] at H; exact H
             clear H
             have H := H1
             clear H1
             obtain ⟨ji32, hji32⟩ : ∃ j_ : Int, (wrap64 ((a0_1.size : Int) + t292)) = j_ := ⟨_, rfl⟩
             replace H : (if 0 ≤ (ji32) then (if (ji32) ≤ (a0_1.size : Int) then (if x3_3.size + (a0_1.extract 0 ((ji32) : Int).toNat).size ≤ 9223372036854775807 then (if (x3_3 ++ (a0_1.extract 0 ((ji32) : Int).toNat)).size + 1 ≤ 9223372036854775807 then (if ((x3_3 ++ (a0_1.extract 0 ((ji32) : Int).toNat)) ++ (⟨#[46]⟩ : ByteArray)).size + (a0_1.extract ((ji32) : Int).toNat a0_1.size).size ≤ 9223372036854775807 then (if x5_19.length < 8796093022208 then (r1_PlainNum.j4 kj26 x3_3 a0_1 (x5_19 ++ [((x3_3 ++ (a0_1.extract 0 ((ji32) : Int).toNat)) ++ (⟨#[46]⟩ : ByteArray)) ++ (a0_1.extract ((ji32) : Int).toNat a0_1.size)]) t292 t293 (a0_1.size : Int) a0_0 a0_1 a0_2) else (none)) else (none)) else (none)) else (none)) else (none)) else (none)) = some r := by first | (rw [hji32] at H; exact H) | (simp only [hji32] at H ⊢; exact H)
             have hji32w : (IntKind.i64.wrap ((a0_1.size : Int) + t292)) = ji32 := (i64_w _).trans hji32
             by_cases c33 : 0 ≤ (ji32)
             ·rw [if_pos c33] at H
              have c33b0 := eq_true c33
              have c33b1 : decide (0 ≤ (ji32)) = true := decide_eq_true c33
              clear c33
              by_cases c34 : (ji32) ≤ (a0_1.size : Int)
              ·rw [if_pos c34] at H
               have c34b0 := eq_true c34
               have c34b1 : decide ((ji32) ≤ (a0_1.size : Int)) = true := decide_eq_true c34
               clear c34
               by_cases c35 : x3_3.size + (a0_1.extract 0 ((ji32) : Int).toNat).size ≤ 9223372036854775807
               ·rw [if_pos c35] at H
                have c35b0 := eq_true c35
                have c35b1 : decide (x3_3.size + (a0_1.extract 0 ((ji32) : Int).toNat).size ≤ 9223372036854775807) = true := decide_eq_true c35
                try have c35b2 : (9223372036854775807 < x3_3.size + (a0_1.extract 0 ((ji32) : Int).toNat).size) = False := eq_false (Nat.not_lt.2 c35)
                (try (have c35b3 : (9223372036854775807 < x3_3.size + ji32.toNat) = False := eq_false (Nat.not_lt.2 (by have h_ := c35; (try simp only [ByteArray.size_append, ByteArray.size_extract] at h_); (try simp only [decide_eq_true_eq] at *); omega))))
                by_cases c36 : (x3_3 ++ (a0_1.extract 0 ((ji32) : Int).toNat)).size + 1 ≤ 9223372036854775807
                ·rw [if_pos c36] at H
                 have c36b0 := eq_true c36
                 have c36b1 : decide ((x3_3 ++ (a0_1.extract 0 ((ji32) : Int).toNat)).size + 1 ≤ 9223372036854775807) = true := decide_eq_true c36
                 try have c36b2 : (9223372036854775807 < (x3_3 ++ (a0_1.extract 0 ((ji32) : Int).toNat)).size + 1) = False := eq_false (Nat.not_lt.2 c36)
                 (try (have c36b3 : (9223372036854775807 < x3_3.size + ji32.toNat + 1) = False := eq_false (Nat.not_lt.2 (by have h_ := c36; (try simp only [ByteArray.size_append, ByteArray.size_extract] at h_); (try simp only [decide_eq_true_eq] at *); omega))))
                 have c37b0 := eq_true (of_decide_eq_true (by first | (with_reducible assumption) | assumption) : 0 ≤ (ji32))
                 have c38b0 := eq_true (of_decide_eq_true (by first | (with_reducible assumption) | assumption) : (ji32) ≤ (a0_1.size : Int))
                 by_cases c39 : ((x3_3 ++ (a0_1.extract 0 ((ji32) : Int).toNat)) ++ (⟨#[46]⟩ : ByteArray)).size + (a0_1.extract ((ji32) : Int).toNat a0_1.size).size ≤ 9223372036854775807
                 ·rw [if_pos c39] at H
                  have c39b0 := eq_true c39
                  have c39b1 : decide (((x3_3 ++ (a0_1.extract 0 ((ji32) : Int).toNat)) ++ (⟨#[46]⟩ : ByteArray)).size + (a0_1.extract ((ji32) : Int).toNat a0_1.size).size ≤ 9223372036854775807) = true := decide_eq_true c39
                  try have c39b2 : (9223372036854775807 < ((x3_3 ++ (a0_1.extract 0 ((ji32) : Int).toNat)) ++ (⟨#[46]⟩ : ByteArray)).size + (a0_1.extract ((ji32) : Int).toNat a0_1.size).size) = False := eq_false (Nat.not_lt.2 c39)
                  (try (have c39b3 : (9223372036854775807 < x3_3.size + ji32.toNat + 1 + (a0_1.size - ji32.toNat)) = False := eq_false (Nat.not_lt.2 (by have h_ := c39; have e0_ : (⟨#[46]⟩ : ByteArray).size = 1 := rfl; (try simp only [ByteArray.size_append, ByteArray.size_extract, e0_] at h_); (try simp only [decide_eq_true_eq] at *); omega))))
                  by_cases c40 : x5_19.length < 8796093022208
                  ·rw [if_pos c40] at H
                   have LMc40 := Aside0.mk c40
                   clear c40
                   obtain ⟨y298, hy298⟩ : ∃ y_ : List ByteArray, y_ = (x5_19 ++ [((x3_3 ++ (a0_1.extract 0 ((ji32) : Int).toNat)) ++ (⟨#[46]⟩ : ByteArray)) ++ (a0_1.extract ((ji32) : Int).toNat a0_1.size)]) := ⟨_, rfl⟩
                   replace H : (r1_PlainNum.j4 kj26 x3_3 a0_1 y298 t292 t293 (a0_1.size : Int) a0_0 a0_1 a0_2) = some r := by first | (rw [hy298]; with_reducible exact H) | (have H2_ := (Option.bind_some _ _).symm.trans H; rw [hy298]; with_reducible exact H2_) | (have H2_ := (Option.bind_some _ _).symm.trans H; with_reducible exact H2_) | with_reducible exact H | (rw [hy298]; exact H) | exact H
                   have Ny298 := Aside0.mk hy298
                   clear hy298
                   have H' := Aside0.mk H
                   clear H
                   try go_wp2
                   have n0_ := Aside0.mk (Kd.R_drew HO_5.out)
                   have n1_ := Aside0.mk (blk_drew BK287.out)
                   have n2_ := Aside0.mk (below_drew1 HB.out)
                   clear HO_5
                   clear BK287
                   clear HB
                   have HO_5 := n0_
                   have BK287 := n1_
                   have HB := n2_
                   clear n0_ n1_ n2_
                   refine start_ (n := 18) (S := fun w' => True) (ds := []) #[false, false, false, false, false, false, false, false, false, false, false, false, false, false, false, false, false, false] (by kernel_rfl) rfl rfl trivial (fun hHeld => ?_); refine with_tabW r1_PlainNum.tab15 r1_PlainNum.bits15 (fun HT_ HW_ => ?_)
                   generalize wc.drew = w41 at HO_5 BK287 HB hHeld ⊢
                   refine pure_ (i := 0) (N := some 61) (v := ?_) (a' := ?_) #[true, false, false, false, false, false, false, false, false, false, false, false, false, false, false, false, false, false] rfl rfl (any_of HT_.out (by kernel_rfl)) (fun _ _ _ h => h) (Or.inl ⟨by rfl, ?_⟩) ?_ ?_
                   rotate_left
                   ·intro w'
                    go_simp
                    with_reducible rfl
                   rotate_left
                   ·simp only [Act.put, List.setIfInBounds_toArray, List.set_cons_zero, List.set_cons_succ, i64_w, i32_w]
                    rfl
                   refine pure_ (i := 1) (N := some 62) (v := ?_) (a' := ?_) #[true, true, false, false, false, false, false, false, false, false, false, false, false, false, false, false, false, false] rfl rfl (any_of HT_.out (by kernel_rfl)) (fun _ _ _ h => h) (Or.inl ⟨by rfl, ?_⟩) ?_ ?_
                   rotate_left
                   ·intro w'
                    go_simp
                    with_reducible rfl
                   rotate_left
                   ·simp only [Act.put, List.setIfInBounds_toArray, List.set_cons_zero, List.set_cons_succ, i64_w, i32_w]
                    rfl
                   refine pure_ (i := 2) (N := some 63) (v := ?_) (a' := ?_) #[true, true, true, false, false, false, false, false, false, false, false, false, false, false, false, false, false, false] rfl rfl (any_of HT_.out (by kernel_rfl)) (fun _ _ _ h => h) (Or.inl ⟨by rfl, ?_⟩) ?_ ?_
                   rotate_left
                   ·intro w'
                    go_simp
                    with_reducible rfl
                   rotate_left
                   ·simp only [Act.put, List.setIfInBounds_toArray, List.set_cons_zero, List.set_cons_succ, i64_w, i32_w]
                    rfl
                   refine pure_ (i := 3) (N := some 64) (v := ?_) (a' := ?_) #[true, true, true, true, false, false, false, false, false, false, false, false, false, false, false, false, false, false] rfl rfl (any_of HT_.out (by kernel_rfl)) (fun _ _ _ h => h) (Or.inl ⟨by rfl, ?_⟩) ?_ ?_
                   rotate_left
                   ·intro w'
                    go_simp
                    with_reducible rfl
                   rotate_left
                   ·simp only [Act.put, List.setIfInBounds_toArray, List.set_cons_zero, List.set_cons_succ, i64_w, i32_w]
                    rfl
                   refine pure_ (i := 4) (N := some 65) (v := ?_) (a' := ?_) #[true, true, true, true, true, false, false, false, false, false, false, false, false, false, false, false, false, false] rfl rfl (any_of HT_.out (by kernel_rfl)) (fun _ _ _ h => h) (Or.inl ⟨by rfl, ?_⟩) ?_ ?_
                   rotate_left
                   ·intro w'
                    go_simp
                    with_reducible rfl
                   rotate_left
                   ·simp only [Act.put, List.setIfInBounds_toArray, List.set_cons_zero, List.set_cons_succ, i64_w, i32_w]
                    rfl
                   refine pure_ (i := 5) (N := some 66) (v := ?_) (a' := ?_) #[true, true, true, true, true, true, false, false, false, false, false, false, false, false, false, false, false, false] rfl rfl (any_of HT_.out (by kernel_rfl)) (fun _ _ _ h => h) (Or.inl ⟨by rfl, ?_⟩) ?_ ?_
                   rotate_left
                   ·intro w'
                    go_simp
                    with_reducible rfl
                   rotate_left
                   ·simp only [Act.put, List.setIfInBounds_toArray, List.set_cons_zero, List.set_cons_succ, i64_w, i32_w]
                    rfl
                   refine pure_ (i := 6) (N := some 67) (v := ?_) (a' := ?_) #[true, true, true, true, true, true, true, false, false, false, false, false, false, false, false, false, false, false] rfl rfl (any_of HT_.out (by kernel_rfl)) (fun _ _ _ h => h) (Or.inl ⟨by rfl, ?_⟩) ?_ ?_
                   rotate_left
                   ·intro w'
                    go_simp
                    with_reducible rfl
                   rotate_left
                   ·simp only [Act.put, List.setIfInBounds_toArray, List.set_cons_zero, List.set_cons_succ, i64_w, i32_w]
                    rfl
                   refine pure_ (i := 7) (N := some 68) (v := ?_) (a' := ?_) #[true, true, true, true, true, true, true, true, false, false, false, false, false, false, false, false, false, false] rfl rfl (any_of HT_.out (by kernel_rfl)) (fun _ _ _ h => h) (Or.inl ⟨by rfl, ?_⟩) ?_ ?_
                   rotate_left
                   ·intro w'
                    go_simp
                    with_reducible rfl
                   rotate_left
                   ·simp only [Act.put, List.setIfInBounds_toArray, List.set_cons_zero, List.set_cons_succ, i64_w, i32_w]
                    rfl
                   refine pure_ (i := 8) (N := some 69) (v := ?_) (a' := ?_) #[true, true, true, true, true, true, true, true, true, false, false, false, false, false, false, false, false, false] rfl rfl (any_of HT_.out (by kernel_rfl)) (fun _ _ _ h => h) (Or.inl ⟨by rfl, ?_⟩) ?_ ?_
                   rotate_left
                   ·intro w'
                    go_simp
                    with_reducible rfl
                   rotate_left
                   ·simp only [Act.put, List.setIfInBounds_toArray, List.set_cons_zero, List.set_cons_succ, i64_w, i32_w]
                    rfl
                   refine pure_ (i := 9) (N := some 70) (v := ?_) (a' := ?_) #[true, true, true, true, true, true, true, true, true, true, false, false, false, false, false, false, false, false] rfl rfl (any_of HT_.out (by kernel_rfl)) (fun _ _ _ h => h) (Or.inl ⟨by rfl, ?_⟩) ?_ ?_
                   rotate_left
                   ·intro w'
                    go_simp
                    with_reducible rfl
                   rotate_left
                   ·simp only [Act.put, List.setIfInBounds_toArray, List.set_cons_zero, List.set_cons_succ, i64_w, i32_w]
                    rfl
                   refine pure_ (i := 10) (N := some 71) (v := ?_) (a' := ?_) #[true, true, true, true, true, true, true, true, true, true, true, false, false, false, false, false, false, false] rfl rfl (any_of HT_.out (by kernel_rfl)) (fun _ _ _ h => h) (Or.inl ⟨by rfl, ?_⟩) ?_ ?_
                   rotate_left
                   ·intro w'
                    go_simp
                    with_reducible rfl
                   rotate_left
                   ·simp only [Act.put, List.setIfInBounds_toArray, List.set_cons_zero, List.set_cons_succ, i64_w, i32_w]
                    rfl
                   refine pure_ (i := 11) (N := some 72) (v := ?_) (a' := ?_) #[true, true, true, true, true, true, true, true, true, true, true, true, false, false, false, false, false, false] rfl rfl (any_of HT_.out (by kernel_rfl)) (fun _ _ _ h => h) (Or.inl ⟨by rfl, ?_⟩) ?_ ?_
                   rotate_left
                   ·intro w'
                    go_simp
                    with_reducible rfl
                   rotate_left
                   ·simp only [Act.put, List.setIfInBounds_toArray, List.set_cons_zero, List.set_cons_succ, i64_w, i32_w]
                    rfl
                   refine pure_ (i := 12) (N := some 73) (v := ?_) (a' := ?_) #[true, true, true, true, true, true, true, true, true, true, true, true, true, false, false, false, false, false] rfl rfl (any_of HT_.out (by kernel_rfl)) (fun _ _ _ h => h) (Or.inl ⟨by rfl, ?_⟩) ?_ ?_
                   rotate_left
                   ·intro w'
                    go_simp
                    with_reducible rfl
                   rotate_left
                   ·simp only [Act.put, List.setIfInBounds_toArray, List.set_cons_zero, List.set_cons_succ, i64_w, i32_w]
                    rfl
                   refine pure_ (i := 13) (N := some 74) (v := ?_) (a' := ?_) #[true, true, true, true, true, true, true, true, true, true, true, true, true, true, false, false, false, false] rfl rfl (any_of HT_.out (by kernel_rfl)) (fun _ _ _ h => h) (Or.inl ⟨by rfl, ?_⟩) ?_ ?_
                   rotate_left
                   ·intro w'
                    go_simp
                    with_reducible rfl
                   rotate_left
                   ·simp only [Act.put, List.setIfInBounds_toArray, List.set_cons_zero, List.set_cons_succ, i64_w, i32_w]
                    rfl
                   refine pure_ (i := 14) (N := some 75) (v := ?_) (a' := ?_) #[true, true, true, true, true, true, true, true, true, true, true, true, true, true, true, false, false, false] rfl rfl (any_of HT_.out (by kernel_rfl)) (fun _ _ _ h => h) (Or.inl ⟨by rfl, ?_⟩) ?_ ?_
                   rotate_left
                   ·intro w'
                    go_simp
                    with_reducible rfl
                   rotate_left
                   ·simp only [Act.put, List.setIfInBounds_toArray, List.set_cons_zero, List.set_cons_succ, i64_w, i32_w]
                    rfl
                   refine one_ (i := 15) (N := some 76) #[true, true, true, true, true, true, true, true, true, true, true, true, true, true, true, true, false, false] rfl rfl (one_of HT_.out (by kernel_rfl)) (by decide) (fun K hK => ?_)
                   refine value_ (w1 := ?_) (v := ?_) (by rfl) rfl ?_ ?_
                   rotate_left 2
                   ·go_simp
                    constructor
                    ·rfl
                    ·rfl
                   refine hK.out _ _ trivial (fun hHeld => ?_)
                   clear hK K
                   refine norm_ (a' := ?_) ?_ ?_
                   rotate_left
                   ·show Act.put _ (some 76) _ = _
                    simp only [Act.put, List.setIfInBounds_toArray, List.set_cons_zero, List.set_cons_succ, i64_w, i32_w]
                    rfl
                   refine one_ (i := 16) (N := some 77) #[true, true, true, true, true, true, true, true, true, true, true, true, true, true, true, true, true, false] rfl rfl (one_of HT_.out (by kernel_rfl)) (by decide) (fun K hK => ?_)
                   refine Kd.R_append_step Kd.string (w0 := w) w.heap.size (by rfl) (.tmp 61) (.tmp 76) 29 9 (.string ⟨#[]⟩) 16 rfl Tryz.underlying29 info9 rfl (by decide) (by omega) u5 x5_19 (((x3_3 ++ (a0_1.extract 0 ((ji32) : Int).toNat)) ++ (⟨#[46]⟩ : ByteArray)) ++ (a0_1.extract ((ji32) : Int).toNat a0_1.size)) [.string (((x3_3 ++ (a0_1.extract 0 ((ji32) : Int).toNat)) ++ (⟨#[46]⟩ : ByteArray)) ++ (a0_1.extract ((ji32) : Int).toNat a0_1.size))] (fun _ => True) (fun _ => False) rfl rfl ?aP (fun _ hk => hk.elim) ?aF ?aO ?aB ?aS ?aL ?_
                   (case aP => exact rfl)
                   (case aB => exact (by repeat (first | (with_reducible first | exact HB.out | apply below_alloc | apply pw_below_drewN | apply below_drew1 | refine below_set ?_ GE287.out) | exact HB.out)))
                   (case aF => exact (fun _ _ => trivial))
                   (case aO => exact (by (with_reducible repeat (first | apply Kd.R_alloc | apply Kd.R_drewN | apply Kd.R_drew)); exact HO_5.out))
                   (case aS => exact (below_size (by repeat (first | (with_reducible first | exact HB.out | apply below_alloc | apply pw_below_drewN | apply below_drew1 | refine below_set ?_ GE287.out) | exact HB.out))))
                   (case aL => have := LMc40.out; omega)
                   intro v299 w42 ho hb hg hat
                   rw [← Ny298.out] at ho
                   have n0_ := Aside0.mk (blk_grown (g := gb287) (o := .cells #[.bool a0_0, .string a0_1, .string a0_2] 23 (0, 0)) (by (with_reducible repeat (first | refine blk_drewN ?_ _ | refine blk_drew ?_ | refine blk_alloc ?_ _)); exact BK287.out) hg (Kd.R_ne HO_5.out BK287.out (by decide)))
                   have n1_ := Aside0.mk (hb)
                   have n2_ := Aside0.mk (ho)
                   clear BK287
                   clear HB
                   clear HO_5
                   have BK287 := n0_
                   have HB := n1_
                   have HO300 := n2_
                   clear n0_ n1_ n2_
                   clear ho hb hg hat
                   refine hK.out _ _ trivial (fun hHeld => ?_)
                   clear hK K
                   refine norm_ (a' := ?_) ?_ ?_
                   rotate_left
                   ·show Act.put _ (some 77) _ = _
                    simp only [Act.put, List.setIfInBounds_toArray, List.set_cons_zero, List.set_cons_succ, i64_w, i32_w]
                    rfl
                   refine pure_ (i := 17) (N := some 5) (v := ?_) (a' := ?_) #[true, true, true, true, true, true, true, true, true, true, true, true, true, true, true, true, true, true] rfl rfl (any_of HT_.out (by kernel_rfl)) (fun _ _ _ h => h) (Or.inl ⟨by rfl, ?_⟩) ?_ ?_
                   rotate_left
                   ·intro w'
                    go_simp
                    with_reducible rfl
                   rotate_left
                   ·simp only [Act.put, List.setIfInBounds_toArray, List.set_cons_zero, List.set_cons_succ, i64_w, i32_w]
                    rfl
                   refine done_ (done_of HT_.out (by kernel_rfl)) ?_
                   try go_wp2
                   go_meet
                   case rel => exact ⟨_, (y298), (by first | exact H' | (simp only [hji32]; exact H')), ⟨by have := HJ3.out; have := HJ15.out; have := HJ19.out; have := HJ26.out; first | omega | exact Nat.le_refl _⟩, ⟨by (with_reducible repeat (first | apply Kd.R_alloc | apply Kd.R_drewN | apply Kd.R_drew)); exact HO300.out⟩, ⟨by (with_reducible repeat (first | refine blk_drewN ?_ _ | refine blk_drew ?_ | refine blk_alloc ?_ _)); exact BK287.out⟩, ⟨by repeat (first | (with_reducible first | exact HB.out | apply below_alloc | apply pw_below_drewN | apply below_drew1 | refine below_set ?_ GE287.out) | exact HB.out)⟩⟩
                  ·rw [if_neg c40] at H
                   exact absurd H (by simp)
                 ·rw [if_neg c39] at H
                  exact absurd H (by simp)
                ·rw [if_neg c36] at H
                 exact absurd H (by simp)
               ·rw [if_neg c35] at H
                exact absurd H (by simp)
              ·rw [if_neg c34] at H
               exact absurd H (by simp)
             ·rw [if_neg c33] at H
              exact absurd H (by simp)
            ·replace c31 := Bool.eq_false_iff.mpr c31
             subst c31
             have H1 : (r1_PlainNum.j4 kj26 x3_3 a0_1 x5_19 t292 t293 (a0_1.size : Int) a0_0 a0_1 a0_2) = some r := by rw [if_neg (show ¬ (false = true) by decide)] at H; exact H
             clear H
             have H := H1
             clear H1
             have H' := Aside0.mk H
             clear H
             go_wp2
             go_meet
             case rel => exact ⟨_, (x5_19), H', ⟨by have := HJ3.out; have := HJ15.out; have := HJ19.out; have := HJ26.out; first | omega | exact Nat.le_refl _⟩, ⟨by (with_reducible repeat (first | apply Kd.R_alloc | apply Kd.R_drewN | apply Kd.R_drew)); exact HO_5.out⟩, ⟨by (with_reducible repeat (first | refine blk_drewN ?_ _ | refine blk_drew ?_ | refine blk_alloc ?_ _)); exact BK287.out⟩, ⟨by repeat (first | (with_reducible first | exact HB.out | apply below_alloc | apply pw_below_drewN | apply below_drew1 | refine below_set ?_ GE287.out) | exact HB.out)⟩⟩
           case rest => as_aux_lemma =>
            clear HC30
            try clear c1
            try clear c2
            try clear p2
            try clear c3
            try clear c4
            try clear p6
            try clear c9
            try clear c10
            try clear c10b0
            try clear c10b1
            try clear c10b2
            try clear c11
            try clear c11b0
            try clear c11b1
            try clear c11b2
            try clear c14
            try clear c18
            try clear c19
            try clear c19b0
            try clear c21
            try clear c22
            try clear c22b0
            try clear c22b1
            try clear c22b2
            try clear c24
            try clear c24b0
            try clear c24b1
            try clear c24b2
            try clear c25
            try clear c28
            try clear c29
            try clear c29b0
            try clear c31
            try clear c33
            try clear c33b0
            try clear c33b1
            try clear c34
            try clear c34b0
            try clear c34b1
            try clear c35
            try clear c35b0
            try clear c35b1
            try clear c35b2
            try clear c36
            try clear c36b0
            try clear c36b1
            try clear c36b2
            try clear c37
            try clear c37b0
            try clear c38
            try clear c38b0
            try clear c39
            try clear c39b0
            try clear c39b1
            try clear c39b2
            try clear c40
            try clear hcz12_0
            try clear hcz12_1
            try clear hcz12_2
            try clear hcz17_0
            try clear hcz17_1
            try clear hcz17_2
            try clear hcz6_0
            try clear hcz6_1
            try clear hcz6_2
            try clear hcz8_0
            try clear hcz8_1
            try clear hcz8_2
            try clear hfz12_0
            try clear hfz12_1
            try clear hfz12_2
            try clear hfz17_0
            try clear hfz17_1
            try clear hfz17_2
            try clear hfz6_0
            try clear hfz6_1
            try clear hfz6_2
            try clear hfz8_0
            try clear hfz8_1
            try clear hfz8_2
            try clear p2
            try clear p6
            obtain ⟨kq, x5_29, HA, HJ29, HO_5, BK287, HB⟩ := hcut
            cases kq with
            | zero => exact absurd HA.out (by simp [r1_PlainNum.j4])
            | succ kj29 =>
             have H := HA.out
             clear HA
             simp only [r1_PlainNum.j4] at H
             have HC43 := Aside0.mk H
             clear H
             go_upto_region 16 with (fail)
             go_cut [91] (fun v91 wc => ∃ (kq : Nat) (x91_42 : Bool), v91 = .bool x91_42 ∧ Aside0 (r1_PlainNum.j5 kq x3_3 a0_1 x5_29 t292 (a0_1.size : Int) x91_42 a0_0 a0_1 a0_2 = some r) ∧ Aside0 (kq ≤ kj29) ∧ Aside0 (Kd.R Kd.string 9 wc w.heap.size (fun _ => True) u5 x5_29) ∧ Aside0 (wc.heap[gb287]? = some (.cells #[.bool a0_0, .string a0_1, .string a0_2] 23 (0, 0))) ∧ Aside0 (Below w.heap.size w wc))
             case first => as_aux_lemma =>
              have H := HC43.out
              clear HC43
              by_cases c44 : t293 = true
              ·subst c44
               have H1 : (if t292 ≤ (wrap64 (-(a0_1.size : Int))) then (r1_PlainNum.j5 kj29 x3_3 a0_1 x5_29 t292 (a0_1.size : Int) (decide (t292 ≥ (wrap64 ((wrap64 (-(a0_1.size : Int))) - 20)))) a0_0 a0_1 a0_2) else (r1_PlainNum.j5 kj29 x3_3 a0_1 x5_29 t292 (a0_1.size : Int) false a0_0 a0_1 a0_2)) = some r := by rw [if_pos rfl] at H; exact H
               clear H
               have H := H1
               clear H1
               by_cases c45 : t292 ≤ (wrap64 (-(a0_1.size : Int)))
               ·rw [if_pos c45] at H
                have c45b0 : decide (t292 ≤ (wrap64 (-(a0_1.size : Int)))) = true := decide_eq_true c45
                clear c45
                (first | rw [c45b0] | (simp only [i64_w, i32_w]; rw [c45b0]) | skip)
                have H' := Aside0.mk H
                clear H
                go_wp2
                go_meet
                case rel => exact ⟨_, (decide (t292 ≥ (wrap64 ((wrap64 (-(a0_1.size : Int))) - 20)))), (by first | rfl | (simp; done) | (simp [bne_nil_]; done) | (simp [*]; done) | (simp [wrap64]; done) | (refine congrArg (Value.int .i64) ?_; unfold wrap64; omega)), H', ⟨by have := HJ3.out; have := HJ15.out; have := HJ19.out; have := HJ26.out; have := HJ29.out; first | omega | exact Nat.le_refl _⟩, ⟨by (with_reducible repeat (first | apply Kd.R_alloc | apply Kd.R_drewN | apply Kd.R_drew)); exact HO_5.out⟩, ⟨by (with_reducible repeat (first | refine blk_drewN ?_ _ | refine blk_drew ?_ | refine blk_alloc ?_ _)); exact BK287.out⟩, ⟨by repeat (first | (with_reducible first | exact HB.out | apply below_alloc | apply pw_below_drewN | apply below_drew1 | refine below_set ?_ GE287.out) | exact HB.out)⟩⟩
               ·rw [if_neg c45] at H
                have c45b0 : decide (t292 ≤ (wrap64 (-(a0_1.size : Int)))) = false := decide_eq_false c45
                clear c45
                (first | rw [c45b0] | (simp only [i64_w, i32_w]; rw [c45b0]) | skip)
                have H' := Aside0.mk H
                clear H
                go_wp2
                go_meet
                case rel => exact ⟨_, (false), (by first | rfl | (simp; done) | (simp [bne_nil_]; done) | (simp [*]; done) | (simp [wrap64]; done) | (refine congrArg (Value.int .i64) ?_; unfold wrap64; omega)), H', ⟨by have := HJ3.out; have := HJ15.out; have := HJ19.out; have := HJ26.out; have := HJ29.out; first | omega | exact Nat.le_refl _⟩, ⟨by (with_reducible repeat (first | apply Kd.R_alloc | apply Kd.R_drewN | apply Kd.R_drew)); exact HO_5.out⟩, ⟨by (with_reducible repeat (first | refine blk_drewN ?_ _ | refine blk_drew ?_ | refine blk_alloc ?_ _)); exact BK287.out⟩, ⟨by repeat (first | (with_reducible first | exact HB.out | apply below_alloc | apply pw_below_drewN | apply below_drew1 | refine below_set ?_ GE287.out) | exact HB.out)⟩⟩
              ·replace c44 := Bool.eq_false_iff.mpr c44
               subst c44
               have H1 : (r1_PlainNum.j5 kj29 x3_3 a0_1 x5_29 t292 (a0_1.size : Int) false a0_0 a0_1 a0_2) = some r := by rw [if_neg (show ¬ (false = true) by decide)] at H; exact H
               clear H
               have H := H1
               clear H1
               have H' := Aside0.mk H
               clear H
               go_wp2
               go_meet
               case rel => exact ⟨_, (false), (by first | rfl | (simp; done) | (simp [bne_nil_]; done) | (simp [*]; done) | (simp [wrap64]; done) | (refine congrArg (Value.int .i64) ?_; unfold wrap64; omega)), H', ⟨by have := HJ3.out; have := HJ15.out; have := HJ19.out; have := HJ26.out; have := HJ29.out; first | omega | exact Nat.le_refl _⟩, ⟨by (with_reducible repeat (first | apply Kd.R_alloc | apply Kd.R_drewN | apply Kd.R_drew)); exact HO_5.out⟩, ⟨by (with_reducible repeat (first | refine blk_drewN ?_ _ | refine blk_drew ?_ | refine blk_alloc ?_ _)); exact BK287.out⟩, ⟨by repeat (first | (with_reducible first | exact HB.out | apply below_alloc | apply pw_below_drewN | apply below_drew1 | refine below_set ?_ GE287.out) | exact HB.out)⟩⟩
             case rest => as_aux_lemma =>
              clear HC43
              try clear c1
              try clear c2
              try clear p2
              try clear c3
              try clear c4
              try clear p6
              try clear c9
              try clear c10
              try clear c10b0
              try clear c10b1
              try clear c10b2
              try clear c11
              try clear c11b0
              try clear c11b1
              try clear c11b2
              try clear c14
              try clear c18
              try clear c19
              try clear c19b0
              try clear c21
              try clear c22
              try clear c22b0
              try clear c22b1
              try clear c22b2
              try clear c24
              try clear c24b0
              try clear c24b1
              try clear c24b2
              try clear c25
              try clear c28
              try clear c29
              try clear c29b0
              try clear c31
              try clear c33
              try clear c33b0
              try clear c33b1
              try clear c34
              try clear c34b0
              try clear c34b1
              try clear c35
              try clear c35b0
              try clear c35b1
              try clear c35b2
              try clear c36
              try clear c36b0
              try clear c36b1
              try clear c36b2
              try clear c37
              try clear c37b0
              try clear c38
              try clear c38b0
              try clear c39
              try clear c39b0
              try clear c39b1
              try clear c39b2
              try clear c40
              try clear c44
              try clear c45
              try clear c45b0
              try clear hcz12_0
              try clear hcz12_1
              try clear hcz12_2
              try clear hcz17_0
              try clear hcz17_1
              try clear hcz17_2
              try clear hcz6_0
              try clear hcz6_1
              try clear hcz6_2
              try clear hcz8_0
              try clear hcz8_1
              try clear hcz8_2
              try clear hfz12_0
              try clear hfz12_1
              try clear hfz12_2
              try clear hfz17_0
              try clear hfz17_1
              try clear hfz17_2
              try clear hfz6_0
              try clear hfz6_1
              try clear hfz6_2
              try clear hfz8_0
              try clear hfz8_1
              try clear hfz8_2
              try clear p2
              try clear p6
              obtain ⟨kq, x91_42, rfl, HA, HJ42, HO_5, BK287, HB⟩ := hcut
              cases kq with
              | zero => exact absurd HA.out (by simp [r1_PlainNum.j5])
              | succ kj42 =>
               have H := HA.out
               clear HA
               simp only [r1_PlainNum.j5] at H
               have HC46 := Aside0.mk H
               clear H
               go_upto_if 91 with (fail)
               go_cut [5] (fun v5 wc => ∃ (kq : Nat) (x5_45 : List ByteArray), Aside0 (r1_PlainNum.j6 kq x3_3 a0_1 x5_45 (a0_1.size : Int) a0_0 a0_1 a0_2 = some r) ∧ Aside0 (kq ≤ kj42) ∧ Aside0 (Kd.R Kd.string 9 wc w.heap.size (fun _ => True) v5 x5_45) ∧ Aside0 (wc.heap[gb287]? = some (.cells #[.bool a0_0, .string a0_1, .string a0_2] 23 (0, 0))) ∧ Aside0 (Below w.heap.size w wc))
               case first => as_aux_lemma =>
                have H := HC46.out
                clear HC46
                by_cases c47 : x91_42 = true
                ·subst c47
                 have H1 : (if x3_3.size + 2 ≤ 9223372036854775807 then ((r1_noughts.f kj42 (wrap64 ((wrap64 (-t292)) - (a0_1.size : Int)))).bind fun t301 => (if (x3_3 ++ (⟨#[48, 46]⟩ : ByteArray)).size + t301.size ≤ 9223372036854775807 then (if ((x3_3 ++ (⟨#[48, 46]⟩ : ByteArray)) ++ t301).size + a0_1.size ≤ 9223372036854775807 then (if x5_29.length < 8796093022208 then (r1_PlainNum.j6 kj42 x3_3 a0_1 (x5_29 ++ [((x3_3 ++ (⟨#[48, 46]⟩ : ByteArray)) ++ t301) ++ a0_1]) (a0_1.size : Int) a0_0 a0_1 a0_2) else (none)) else (none)) else (none))) else (none)) = some r := by rw [if_pos rfl] at H; exact H
                 clear H
                 have H := H1
                 clear H1
                 by_cases c48 : x3_3.size + 2 ≤ 9223372036854775807
                 ·rw [if_pos c48] at H
                  have c48b0 := eq_true c48
                  have c48b1 : decide (x3_3.size + 2 ≤ 9223372036854775807) = true := decide_eq_true c48
                  try have c48b2 : (9223372036854775807 < x3_3.size + 2) = False := eq_false (Nat.not_lt.2 c48)
                  replace H := Option.bind_eq_some_iff.mp H
                  obtain ⟨t301, A490, H⟩ := H
                  replace H : (if (x3_3 ++ (⟨#[48, 46]⟩ : ByteArray)).size + t301.size ≤ 9223372036854775807 then (if ((x3_3 ++ (⟨#[48, 46]⟩ : ByteArray)) ++ t301).size + a0_1.size ≤ 9223372036854775807 then (if x5_29.length < 8796093022208 then (r1_PlainNum.j6 kj42 x3_3 a0_1 (x5_29 ++ [((x3_3 ++ (⟨#[48, 46]⟩ : ByteArray)) ++ t301) ++ a0_1]) (a0_1.size : Int) a0_0 a0_1 a0_2) else (none)) else (none)) else (none)) = some r := H
                  have A49 := Aside0.mk A490
                  clear A490
                  by_cases c50 : (x3_3 ++ (⟨#[48, 46]⟩ : ByteArray)).size + t301.size ≤ 9223372036854775807
                  ·rw [if_pos c50] at H
                   have c50b0 := eq_true c50
                   have c50b1 : decide ((x3_3 ++ (⟨#[48, 46]⟩ : ByteArray)).size + t301.size ≤ 9223372036854775807) = true := decide_eq_true c50
                   try have c50b2 : (9223372036854775807 < (x3_3 ++ (⟨#[48, 46]⟩ : ByteArray)).size + t301.size) = False := eq_false (Nat.not_lt.2 c50)
                   (try (have c50b3 : (9223372036854775807 < x3_3.size + 2 + t301.size) = False := eq_false (Nat.not_lt.2 (by have h_ := c50; have e0_ : (⟨#[48, 46]⟩ : ByteArray).size = 2 := rfl; (try simp only [ByteArray.size_append, ByteArray.size_extract, e0_] at h_); (try simp only [decide_eq_true_eq] at *); omega))))
                   by_cases c51 : ((x3_3 ++ (⟨#[48, 46]⟩ : ByteArray)) ++ t301).size + a0_1.size ≤ 9223372036854775807
                   ·rw [if_pos c51] at H
                    have c51b0 := eq_true c51
                    have c51b1 : decide (((x3_3 ++ (⟨#[48, 46]⟩ : ByteArray)) ++ t301).size + a0_1.size ≤ 9223372036854775807) = true := decide_eq_true c51
                    try have c51b2 : (9223372036854775807 < ((x3_3 ++ (⟨#[48, 46]⟩ : ByteArray)) ++ t301).size + a0_1.size) = False := eq_false (Nat.not_lt.2 c51)
                    (try (have c51b3 : (9223372036854775807 < x3_3.size + 2 + t301.size + a0_1.size) = False := eq_false (Nat.not_lt.2 (by have h_ := c51; have e0_ : (⟨#[48, 46]⟩ : ByteArray).size = 2 := rfl; (try simp only [ByteArray.size_append, ByteArray.size_extract, e0_] at h_); (try simp only [decide_eq_true_eq] at *); omega))))
                    by_cases c52 : x5_29.length < 8796093022208
                    ·rw [if_pos c52] at H
                     have LMc52 := Aside0.mk c52
                     clear c52
                     obtain ⟨y302, hy302⟩ : ∃ y_ : List ByteArray, y_ = (x5_29 ++ [((x3_3 ++ (⟨#[48, 46]⟩ : ByteArray)) ++ t301) ++ a0_1]) := ⟨_, rfl⟩
                     replace H : (r1_PlainNum.j6 kj42 x3_3 a0_1 y302 (a0_1.size : Int) a0_0 a0_1 a0_2) = some r := by first | (rw [hy302]; with_reducible exact H) | (have H2_ := (Option.bind_some _ _).symm.trans H; rw [hy302]; with_reducible exact H2_) | (have H2_ := (Option.bind_some _ _).symm.trans H; with_reducible exact H2_) | with_reducible exact H | (rw [hy302]; exact H) | exact H
                     have Ny302 := Aside0.mk hy302
                     clear hy302
                     have H' := Aside0.mk H
                     clear H
                     go_wp2_with (first | ((with_reducible refine gate_callee (f := 35) rfl ?_); refine goesL_ (some 99) rfl rfl Tryz.func35 (by kernel_rfl) rfl #[.int .i64 (wrap64 ((wrap64 (-t292)) - (a0_1.size : Int)))] rfl (by (try simp only [List.map_toArray, List.map_cons, List.map_nil]); first | done | rfl | (simp only [List.length_drop, List.length_take]; rfl)) ?_; (with_reducible refine (r1_noughts.calls kj42 (wrap64 ((wrap64 (-t292)) - (a0_1.size : Int))) t301 _ A49.out).mono ?_); rintro e w' ⟨rfl, ⟨nd, rfl⟩⟩; refine ⟨_, rfl, ?_⟩) | ((with_reducible refine gate_builtin (b := .append) (xs := #[.tmp 92, .tmp 103]) rfl ?_); at_builtin; refine Kd.R_append Kd.string (w0 := w) w.heap.size rfl (.tmp 92) (.tmp 103) 29 9 (.string ⟨#[]⟩) 16 rfl Tryz.underlying29 info9 rfl (by decide) (by omega) u5 x5_29 (((x3_3 ++ (⟨#[48, 46]⟩ : ByteArray)) ++ t301) ++ a0_1) [.string (((x3_3 ++ (⟨#[48, 46]⟩ : ByteArray)) ++ t301) ++ a0_1)] (fun _ => True) (fun _ => False) rfl rfl ?aP (fun _ hk => hk.elim) ?aF ?aO ?aB ?aS ?aL ?_; (case aP => exact rfl); (case aB => exact (by repeat (first | (with_reducible first | exact HB.out | apply below_alloc | apply pw_below_drewN | apply below_drew1 | refine below_set ?_ GE287.out) | exact HB.out))); (case aF => exact (fun _ _ => trivial)); (case aO => exact (by (with_reducible repeat (first | apply Kd.R_alloc | apply Kd.R_drewN | apply Kd.R_drew)); exact HO_5.out)); (case aS => exact (below_size (by repeat (first | (with_reducible first | exact HB.out | apply below_alloc | apply pw_below_drewN | apply below_drew1 | refine below_set ?_ GE287.out) | exact HB.out)))); (case aL => have := LMc52.out; omega); intro v303 w53 ho hb hg hat; rw [← Ny302.out] at ho; have n0_ := Aside0.mk (blk_grown (g := gb287) (o := .cells #[.bool a0_0, .string a0_1, .string a0_2] 23 (0, 0)) (by (with_reducible repeat (first | refine blk_drewN ?_ _ | refine blk_drew ?_ | refine blk_alloc ?_ _)); exact BK287.out) hg (Kd.R_ne HO_5.out BK287.out (by decide))); have n1_ := Aside0.mk (hb); have n2_ := Aside0.mk (ho); clear BK287; clear HB; clear HO_5; have BK287 := n0_; have HB := n1_; have HO304 := n2_; clear n0_ n1_ n2_; clear ho hb hg hat))
                     go_meet
                     case rel => exact ⟨_, (y302), H', ⟨by have := HJ3.out; have := HJ15.out; have := HJ19.out; have := HJ26.out; have := HJ29.out; have := HJ42.out; first | omega | exact Nat.le_refl _⟩, ⟨by (with_reducible repeat (first | apply Kd.R_alloc | apply Kd.R_drewN | apply Kd.R_drew)); exact HO304.out⟩, ⟨by (with_reducible repeat (first | refine blk_drewN ?_ _ | refine blk_drew ?_ | refine blk_alloc ?_ _)); exact BK287.out⟩, ⟨by repeat (first | (with_reducible first | exact HB.out | apply below_alloc | apply pw_below_drewN | apply below_drew1 | refine below_set ?_ GE287.out) | exact HB.out)⟩⟩
                    ·rw [if_neg c52] at H
                     exact absurd H (by simp)
                   ·rw [if_neg c51] at H
                    exact absurd H (by simp)
                  ·rw [if_neg c50] at H
                   exact absurd H (by simp)
                 ·rw [if_neg c48] at H
                  exact absurd H (by simp)
                ·replace c47 := Bool.eq_false_iff.mpr c47
                 subst c47
                 have H1 : (r1_PlainNum.j6 kj42 x3_3 a0_1 x5_29 (a0_1.size : Int) a0_0 a0_1 a0_2) = some r := by rw [if_neg (show ¬ (false = true) by decide)] at H; exact H
                 clear H
                 have H := H1
                 clear H1
                 have H' := Aside0.mk H
                 clear H
                 go_wp2
                 go_meet
                 case rel => exact ⟨_, (x5_29), H', ⟨by have := HJ3.out; have := HJ15.out; have := HJ19.out; have := HJ26.out; have := HJ29.out; have := HJ42.out; first | omega | exact Nat.le_refl _⟩, ⟨by (with_reducible repeat (first | apply Kd.R_alloc | apply Kd.R_drewN | apply Kd.R_drew)); exact HO_5.out⟩, ⟨by (with_reducible repeat (first | refine blk_drewN ?_ _ | refine blk_drew ?_ | refine blk_alloc ?_ _)); exact BK287.out⟩, ⟨by repeat (first | (with_reducible first | exact HB.out | apply below_alloc | apply pw_below_drewN | apply below_drew1 | refine below_set ?_ GE287.out) | exact HB.out)⟩⟩
               case rest => as_aux_lemma =>
                clear HC46
                try clear c1
                try clear c2
                try clear p2
                try clear c3
                try clear c4
                try clear c5
                try clear p6
                try clear c9
                try clear c10
                try clear c10b0
                try clear c10b1
                try clear c10b2
                try clear c11
                try clear c11b0
                try clear c11b1
                try clear c11b2
                try clear c14
                try clear c18
                try clear c19
                try clear c19b0
                try clear c21
                try clear c22
                try clear c22b0
                try clear c22b1
                try clear c22b2
                try clear c24
                try clear c24b0
                try clear c24b1
                try clear c24b2
                try clear c25
                try clear c28
                try clear c29
                try clear c29b0
                try clear c31
                try clear c33
                try clear c33b0
                try clear c33b1
                try clear c34
                try clear c34b0
                try clear c34b1
                try clear c35
                try clear c35b0
                try clear c35b1
                try clear c35b2
                try clear c36
                try clear c36b0
                try clear c36b1
                try clear c36b2
                try clear c37
                try clear c37b0
                try clear c38
                try clear c38b0
                try clear c39
                try clear c39b0
                try clear c39b1
                try clear c39b2
                try clear c40
                try clear c44
                try clear c45
                try clear c45b0
                try clear c47
                try clear c48
                try clear c48b0
                try clear c48b1
                try clear c48b2
                try clear c50
                try clear c50b0
                try clear c50b1
                try clear c50b2
                try clear c51
                try clear c51b0
                try clear c51b1
                try clear c51b2
                try clear c52
                try clear hcz12_0
                try clear hcz12_1
                try clear hcz12_2
                try clear hcz17_0
                try clear hcz17_1
                try clear hcz17_2
                try clear hcz6_0
                try clear hcz6_1
                try clear hcz6_2
                try clear hcz8_0
                try clear hcz8_1
                try clear hcz8_2
                try clear hfz12_0
                try clear hfz12_1
                try clear hfz12_2
                try clear hfz17_0
                try clear hfz17_1
                try clear hfz17_2
                try clear hfz6_0
                try clear hfz6_1
                try clear hfz6_2
                try clear hfz8_0
                try clear hfz8_1
                try clear hfz8_2
                try clear p2
                try clear p6
                obtain ⟨kq, x5_45, HA, HJ45, HO_5, BK287, HB⟩ := hcut
                cases kq with
                | zero => exact absurd HA.out (by simp [r1_PlainNum.j6])
                | succ kj45 =>
                 have H := HA.out
                 clear HA
                 simp only [r1_PlainNum.j6] at H
                 by_cases c54 : x3_3.size + a0_1.size ≤ 9223372036854775807
                 ·rw [if_pos c54] at H
                  have c54b0 := eq_true c54
                  have c54b1 : decide (x3_3.size + a0_1.size ≤ 9223372036854775807) = true := decide_eq_true c54
                  try have c54b2 : (9223372036854775807 < x3_3.size + a0_1.size) = False := eq_false (Nat.not_lt.2 c54)
                  by_cases c55 : (x3_3 ++ a0_1).size + 1 ≤ 9223372036854775807
                  ·rw [if_pos c55] at H
                   have c55b0 := eq_true c55
                   have c55b1 : decide ((x3_3 ++ a0_1).size + 1 ≤ 9223372036854775807) = true := decide_eq_true c55
                   try have c55b2 : (9223372036854775807 < (x3_3 ++ a0_1).size + 1) = False := eq_false (Nat.not_lt.2 c55)
                   (try (have c55b3 : (9223372036854775807 < x3_3.size + a0_1.size + 1) = False := eq_false (Nat.not_lt.2 (by have h_ := c55; (try simp only [ByteArray.size_append, ByteArray.size_extract] at h_); (try simp only [decide_eq_true_eq] at *); omega))))
                   by_cases c56 : ((x3_3 ++ a0_1) ++ (⟨#[101]⟩ : ByteArray)).size + a0_2.size ≤ 9223372036854775807
                   ·rw [if_pos c56] at H
                    have c56b0 := eq_true c56
                    have c56b1 : decide (((x3_3 ++ a0_1) ++ (⟨#[101]⟩ : ByteArray)).size + a0_2.size ≤ 9223372036854775807) = true := decide_eq_true c56
                    try have c56b2 : (9223372036854775807 < ((x3_3 ++ a0_1) ++ (⟨#[101]⟩ : ByteArray)).size + a0_2.size) = False := eq_false (Nat.not_lt.2 c56)
                    (try (have c56b3 : (9223372036854775807 < x3_3.size + a0_1.size + 1 + a0_2.size) = False := eq_false (Nat.not_lt.2 (by have h_ := c56; have e0_ : (⟨#[101]⟩ : ByteArray).size = 1 := rfl; (try simp only [ByteArray.size_append, ByteArray.size_extract, e0_] at h_); (try simp only [decide_eq_true_eq] at *); omega))))
                    by_cases c57 : x5_45.length < 8796093022208
                    ·rw [if_pos c57] at H
                     have LMc57 := Aside0.mk c57
                     clear c57
                     obtain ⟨y305, hy305⟩ : ∃ y_ : List ByteArray, y_ = (x5_45 ++ [((x3_3 ++ a0_1) ++ (⟨#[101]⟩ : ByteArray)) ++ a0_2]) := ⟨_, rfl⟩
                     replace H : (if (a0_1.size : Int) > 1 then ((r1_Dec.f kj45 (wrap64 ((a0_1.size : Int) - 1))).bind fun t308 => ((r1_Add.f kj45 a0_2 t308).bind fun bt309 => (if 0 ≤ 1 then (if 1 ≤ (a0_1.size : Int) then (if x3_3.size + (a0_1.extract 0 1).size ≤ 9223372036854775807 then (if (x3_3 ++ (a0_1.extract 0 1)).size + 1 ≤ 9223372036854775807 then (if ((x3_3 ++ (a0_1.extract 0 1)) ++ (⟨#[46]⟩ : ByteArray)).size + (a0_1.extract 1 a0_1.size).size ≤ 9223372036854775807 then (if bt309.1.toList = ([48] : List UInt8) then (some y305) else (if (((x3_3 ++ (a0_1.extract 0 1)) ++ (⟨#[46]⟩ : ByteArray)) ++ (a0_1.extract 1 a0_1.size)).size + 1 ≤ 9223372036854775807 then (if ((((x3_3 ++ (a0_1.extract 0 1)) ++ (⟨#[46]⟩ : ByteArray)) ++ (a0_1.extract 1 a0_1.size)) ++ (⟨#[101]⟩ : ByteArray)).size + bt309.1.size ≤ 9223372036854775807 then (if y305.length < 8796093022208 then (some (y305 ++ [((((x3_3 ++ (a0_1.extract 0 1)) ++ (⟨#[46]⟩ : ByteArray)) ++ (a0_1.extract 1 a0_1.size)) ++ (⟨#[101]⟩ : ByteArray)) ++ bt309.1])) else (none)) else (none)) else (none))) else (none)) else (none)) else (none)) else (none)) else (none)))) else (some y305)) = some r := by first | (rw [hy305]; with_reducible exact H) | (have H2_ := (Option.bind_some _ _).symm.trans H; rw [hy305]; with_reducible exact H2_) | (have H2_ := (Option.bind_some _ _).symm.trans H; with_reducible exact H2_) | with_reducible exact H | (rw [hy305]; exact H) | exact H
                     have Ny305 := Aside0.mk hy305
                     clear hy305
                     by_cases c58 : (a0_1.size : Int) > 1
                     ·rw [if_pos c58] at H
                      have c58b0 : decide (1 < (a0_1.size : Int)) = true := decide_eq_true c58
                      have c58b1 : decide (1 < a0_1.size) = true := decide_eq_true (by omega)
                      clear c58
                      replace H := Option.bind_eq_some_iff.mp H
                      obtain ⟨t308, A590, H⟩ := H
                      replace H : ((r1_Add.f kj45 a0_2 t308).bind fun bt309 => (if 0 ≤ 1 then (if 1 ≤ (a0_1.size : Int) then (if x3_3.size + (a0_1.extract 0 1).size ≤ 9223372036854775807 then (if (x3_3 ++ (a0_1.extract 0 1)).size + 1 ≤ 9223372036854775807 then (if ((x3_3 ++ (a0_1.extract 0 1)) ++ (⟨#[46]⟩ : ByteArray)).size + (a0_1.extract 1 a0_1.size).size ≤ 9223372036854775807 then (if bt309.1.toList = ([48] : List UInt8) then (some y305) else (if (((x3_3 ++ (a0_1.extract 0 1)) ++ (⟨#[46]⟩ : ByteArray)) ++ (a0_1.extract 1 a0_1.size)).size + 1 ≤ 9223372036854775807 then (if ((((x3_3 ++ (a0_1.extract 0 1)) ++ (⟨#[46]⟩ : ByteArray)) ++ (a0_1.extract 1 a0_1.size)) ++ (⟨#[101]⟩ : ByteArray)).size + bt309.1.size ≤ 9223372036854775807 then (if y305.length < 8796093022208 then (some (y305 ++ [((((x3_3 ++ (a0_1.extract 0 1)) ++ (⟨#[46]⟩ : ByteArray)) ++ (a0_1.extract 1 a0_1.size)) ++ (⟨#[101]⟩ : ByteArray)) ++ bt309.1])) else (none)) else (none)) else (none))) else (none)) else (none)) else (none)) else (none)) else (none))) = some r := H
                      have A59 := Aside0.mk A590
                      clear A590
                      replace H := Option.bind_eq_some_iff.mp H
                      obtain ⟨⟨t309, t310⟩, A600, H⟩ := H
                      replace H : (if 0 ≤ 1 then (if 1 ≤ (a0_1.size : Int) then (if x3_3.size + (a0_1.extract 0 1).size ≤ 9223372036854775807 then (if (x3_3 ++ (a0_1.extract 0 1)).size + 1 ≤ 9223372036854775807 then (if ((x3_3 ++ (a0_1.extract 0 1)) ++ (⟨#[46]⟩ : ByteArray)).size + (a0_1.extract 1 a0_1.size).size ≤ 9223372036854775807 then (if t309.toList = ([48] : List UInt8) then (some y305) else (if (((x3_3 ++ (a0_1.extract 0 1)) ++ (⟨#[46]⟩ : ByteArray)) ++ (a0_1.extract 1 a0_1.size)).size + 1 ≤ 9223372036854775807 then (if ((((x3_3 ++ (a0_1.extract 0 1)) ++ (⟨#[46]⟩ : ByteArray)) ++ (a0_1.extract 1 a0_1.size)) ++ (⟨#[101]⟩ : ByteArray)).size + t309.size ≤ 9223372036854775807 then (if y305.length < 8796093022208 then (some (y305 ++ [((((x3_3 ++ (a0_1.extract 0 1)) ++ (⟨#[46]⟩ : ByteArray)) ++ (a0_1.extract 1 a0_1.size)) ++ (⟨#[101]⟩ : ByteArray)) ++ t309])) else (none)) else (none)) else (none))) else (none)) else (none)) else (none)) else (none)) else (none)) = some r := H
                      have A60 := Aside0.mk A600
                      clear A600
                      by_cases c61 : 0 ≤ 1
                      ·rw [if_pos c61] at H
                       have c61b0 := eq_true c61
                       have c61b1 : decide (0 ≤ 1) = true := decide_eq_true c61
                       clear c61
                       by_cases c62 : 1 ≤ (a0_1.size : Int)
                       ·rw [if_pos c62] at H
                        have c62b0 := eq_true c62
                        have c62b1 : decide (1 ≤ (a0_1.size : Int)) = true := decide_eq_true c62
                        clear c62
                        by_cases c63 : x3_3.size + (a0_1.extract 0 1).size ≤ 9223372036854775807
                        ·rw [if_pos c63] at H
                         have c63b0 := eq_true c63
                         have c63b1 : decide (x3_3.size + (a0_1.extract 0 1).size ≤ 9223372036854775807) = true := decide_eq_true c63
                         try have c63b2 : (9223372036854775807 < x3_3.size + (a0_1.extract 0 1).size) = False := eq_false (Nat.not_lt.2 c63)
                         (try (have c63b3 : (9223372036854775807 < x3_3.size + 1) = False := eq_false (Nat.not_lt.2 (by have h_ := c63; (try simp only [ByteArray.size_append, ByteArray.size_extract] at h_); (try simp only [decide_eq_true_eq] at *); omega))))
                         (try (have c63b4 : (9223372036854775807 < x3_3.size + min 1 a0_1.size) = False := eq_false (Nat.not_lt.2 (by have h_ := c63; (try simp only [ByteArray.size_append, ByteArray.size_extract] at h_); (try simp only [decide_eq_true_eq] at *); omega))))
                         by_cases c64 : (x3_3 ++ (a0_1.extract 0 1)).size + 1 ≤ 9223372036854775807
                         ·rw [if_pos c64] at H
                          have c64b0 := eq_true c64
                          have c64b1 : decide ((x3_3 ++ (a0_1.extract 0 1)).size + 1 ≤ 9223372036854775807) = true := decide_eq_true c64
                          try have c64b2 : (9223372036854775807 < (x3_3 ++ (a0_1.extract 0 1)).size + 1) = False := eq_false (Nat.not_lt.2 c64)
                          (try (have c64b3 : (9223372036854775807 < x3_3.size + 1 + 1) = False := eq_false (Nat.not_lt.2 (by have h_ := c64; (try simp only [ByteArray.size_append, ByteArray.size_extract] at h_); (try simp only [decide_eq_true_eq] at *); omega))))
                          (try (have c64b4 : (9223372036854775807 < x3_3.size + min 1 a0_1.size + 1) = False := eq_false (Nat.not_lt.2 (by have h_ := c64; (try simp only [ByteArray.size_append, ByteArray.size_extract] at h_); (try simp only [decide_eq_true_eq] at *); omega))))
                          have c65b0 := eq_true (of_decide_eq_true (by first | (with_reducible assumption) | assumption) : 1 ≤ (a0_1.size : Int))
                          by_cases c66 : ((x3_3 ++ (a0_1.extract 0 1)) ++ (⟨#[46]⟩ : ByteArray)).size + (a0_1.extract 1 a0_1.size).size ≤ 9223372036854775807
                          ·rw [if_pos c66] at H
                           have c66b0 := eq_true c66
                           have c66b1 : decide (((x3_3 ++ (a0_1.extract 0 1)) ++ (⟨#[46]⟩ : ByteArray)).size + (a0_1.extract 1 a0_1.size).size ≤ 9223372036854775807) = true := decide_eq_true c66
                           try have c66b2 : (9223372036854775807 < ((x3_3 ++ (a0_1.extract 0 1)) ++ (⟨#[46]⟩ : ByteArray)).size + (a0_1.extract 1 a0_1.size).size) = False := eq_false (Nat.not_lt.2 c66)
                           (try (have c66b3 : (9223372036854775807 < x3_3.size + 1 + 1 + (a0_1.size - 1)) = False := eq_false (Nat.not_lt.2 (by have h_ := c66; have e0_ : (⟨#[46]⟩ : ByteArray).size = 1 := rfl; (try simp only [ByteArray.size_append, ByteArray.size_extract, e0_] at h_); (try simp only [decide_eq_true_eq] at *); omega))))
                           (try (have c66b4 : (9223372036854775807 < x3_3.size + min 1 a0_1.size + 1 + (a0_1.size - 1)) = False := eq_false (Nat.not_lt.2 (by have h_ := c66; have e0_ : (⟨#[46]⟩ : ByteArray).size = 1 := rfl; (try simp only [ByteArray.size_append, ByteArray.size_extract, e0_] at h_); (try simp only [decide_eq_true_eq] at *); omega))))
                           by_cases c67 : t309.toList = ([48] : List UInt8)
                           ·rw [if_pos c67] at H
                            have c67b0 : (t309.toList == ([48] : List UInt8)) = true := beq_iff_eq.mpr c67
                            have c67b1 : (t309.toList != ([48] : List UInt8)) = false := bne_eq_false_iff_eq.mpr c67
                            clear c67
                            obtain rfl := Option.some.inj H
                            have hcz68_0 : wc.cell? ⟨gb287, 0, none⟩ = some (.bool a0_0) := (blk_cell BK287.out 0).trans rfl
                            have hcz68_1 : wc.cell? ⟨gb287, 1, none⟩ = some (.string a0_1) := (blk_cell BK287.out 1).trans rfl
                            have hcz68_2 : wc.cell? ⟨gb287, 2, none⟩ = some (.string a0_2) := (blk_cell BK287.out 2).trans rfl
                            have hfz68_0 := blk_frozen BK287.out 0
                            have hfz68_1 := blk_frozen BK287.out 1
                            have hfz68_2 := blk_frozen BK287.out 2
                            try go_wp2_with (first | ((with_reducible refine gate_builtin (b := .append) (xs := #[.tmp 105, .tmp 113]) rfl ?_); at_builtin; refine Kd.R_append Kd.string (w0 := w) w.heap.size rfl (.tmp 105) (.tmp 113) 29 9 (.string ⟨#[]⟩) 16 rfl Tryz.underlying29 info9 rfl (by decide) (by omega) u5 x5_45 (((x3_3 ++ a0_1) ++ (⟨#[101]⟩ : ByteArray)) ++ a0_2) [.string (((x3_3 ++ a0_1) ++ (⟨#[101]⟩ : ByteArray)) ++ a0_2)] (fun _ => True) (fun _ => False) rfl rfl ?aP (fun _ hk => hk.elim) ?aF ?aO ?aB ?aS ?aL ?_; (case aP => exact rfl); (case aB => exact (by repeat (first | (with_reducible first | exact HB.out | apply below_alloc | apply pw_below_drewN | apply below_drew1 | refine below_set ?_ GE287.out) | exact HB.out))); (case aF => exact (fun _ _ => trivial)); (case aO => exact (by (with_reducible repeat (first | apply Kd.R_alloc | apply Kd.R_drewN | apply Kd.R_drew)); exact HO_5.out)); (case aS => exact (below_size (by repeat (first | (with_reducible first | exact HB.out | apply below_alloc | apply pw_below_drewN | apply below_drew1 | refine below_set ?_ GE287.out) | exact HB.out)))); (case aL => have := LMc57.out; omega); intro v306 w69 ho hb hg hat; rw [← Ny305.out] at ho; have n0_ := Aside0.mk (blk_grown (g := gb287) (o := .cells #[.bool a0_0, .string a0_1, .string a0_2] 23 (0, 0)) (by (with_reducible repeat (first | refine blk_drewN ?_ _ | refine blk_drew ?_ | refine blk_alloc ?_ _)); exact BK287.out) hg (Kd.R_ne HO_5.out BK287.out (by decide))); have n1_ := Aside0.mk (hb); have n2_ := Aside0.mk (ho); clear BK287; clear HB; clear HO_5; have BK287 := n0_; have HB := n1_; have HO307 := n2_; clear n0_ n1_ n2_; clear ho hb hg hat))
                            have n0_ := Aside0.mk (Kd.R_drew HO307.out)
                            have n1_ := Aside0.mk (blk_drew BK287.out)
                            have n2_ := Aside0.mk (below_drew1 HB.out)
                            clear HO307
                            clear BK287
                            clear HB
                            have HO307 := n0_
                            have BK287 := n1_
                            have HB := n2_
                            clear n0_ n1_ n2_
                            refine start_ (n := 11) (S := fun w' => w'.cell? ⟨gb287, 0, none⟩ = some (.bool a0_0) ∧ w'.cell? ⟨gb287, 1, none⟩ = some (.string a0_1) ∧ w'.cell? ⟨gb287, 2, none⟩ = some (.string a0_2)) (ds := []) #[false, false, false, false, false, false, false, false, false, false, false] (by kernel_rfl) rfl rfl ⟨(blk_cell BK287.out 0).trans rfl, (blk_cell BK287.out 1).trans rfl, (blk_cell BK287.out 2).trans rfl⟩ (fun hHeld => ?_); refine with_tabW r1_PlainNum.tab20 r1_PlainNum.bits20 (fun HT_ HW_ => ?_)
                            generalize w69.drew = w70 at HO307 BK287 HB hHeld ⊢
                            refine pure_ (i := 0) (N := some 118) (v := ?_) (a' := ?_) #[true, false, false, false, false, false, false, false, false, false, false] rfl rfl (any_of HT_.out (by kernel_rfl)) (fun _ _ _ h => h) (Or.inl ⟨by rfl, ?_⟩) ?_ ?_
                            rotate_left
                            ·intro w'
                             go_simp
                             with_reducible rfl
                            rotate_left
                            ·simp only [Act.put, List.setIfInBounds_toArray, List.set_cons_zero, List.set_cons_succ, i64_w, i32_w]
                             rfl
                            refine pure_ (i := 2) (N := some 120) (v := ?_) (a' := ?_) #[true, false, true, false, false, false, false, false, false, false, false] rfl rfl (any_of HT_.out (by kernel_rfl)) (fun _ _ _ h => h) (Or.inl ⟨by rfl, ?_⟩) ?_ ?_
                            rotate_left
                            ·intro w'
                             go_simp
                             with_reducible rfl
                            rotate_left
                            ·simp only [Act.put, List.setIfInBounds_toArray, List.set_cons_zero, List.set_cons_succ, i64_w, i32_w]
                             rfl
                            refine pure_ (i := 3) (N := some 121) (v := ?_) (a' := ?_) #[true, false, true, true, false, false, false, false, false, false, false] rfl rfl (any_of HT_.out (by kernel_rfl)) (fun _ _ _ h => h) (Or.inl ⟨by rfl, ?_⟩) ?_ ?_
                            rotate_left
                            ·intro w'
                             go_simp
                             with_reducible rfl
                            rotate_left
                            ·simp only [Act.put, List.setIfInBounds_toArray, List.set_cons_zero, List.set_cons_succ, i64_w, i32_w]
                             rfl
                            refine take_ (i := 1) (N := some 119) (v := ?_) (a' := ?_) #[true, true, true, true, false, false, false, false, false, false, false] rfl rfl (take_ofW HT_.out HW_.out (by kernel_rfl)) (fun _ _ _ h => h) (Or.inl ⟨by rfl, ?_⟩) hHeld ?_ ?_
                            rotate_left
                            ·rintro w' ⟨s0, s1, s2⟩
                             go_simp
                             with_reducible rfl
                            rotate_left
                            ·simp only [Act.put, List.setIfInBounds_toArray, List.set_cons_zero, List.set_cons_succ, i64_w, i32_w]
                             rfl
                            refine one_ (i := 4) (N := some 122) #[true, true, true, true, true, false, false, false, false, false, false] rfl rfl (one_of HT_.out (by kernel_rfl)) (by decide) (fun K hK => ?_)
                            refine goes_ Tryz.func29 (by kernel_rfl) rfl #[.int .i64 (wrap64 ((a0_1.size : Int) - 1))] (by rfl) rfl rfl (by (try simp only [List.map_toArray, List.map_cons, List.map_nil]); first | done | rfl | (simp only [List.length_drop, List.length_take]; rfl)) ?_
                            with_reducible refine (r1_Dec.calls kj45 (wrap64 ((a0_1.size : Int) - 1)) t308 _ A59.out).mono ?_
                            rintro e w' ⟨rfl, ⟨nd, rfl⟩⟩
                            refine ⟨_, rfl, ?_⟩
                            refine hK.out _ _ ⟨(blk_cell BK287.out 0).trans rfl, (blk_cell BK287.out 1).trans rfl, (blk_cell BK287.out 2).trans rfl⟩ (fun hHeld => ?_)
                            clear hK K
                            refine norm_ (a' := ?_) ?_ ?_
                            rotate_left
                            ·show Act.put _ (some 122) _ = _
                             simp only [Act.put, List.setIfInBounds_toArray, List.set_cons_zero, List.set_cons_succ, i64_w, i32_w]
                             rfl
                            refine one_ (i := 5) (N := some 123) #[true, true, true, true, true, true, false, false, false, false, false] rfl rfl (one_of HT_.out (by kernel_rfl)) (by decide) (fun K hK => ?_)
                            refine goes_ Tryz.func28 (by kernel_rfl) rfl #[.string a0_2, .string t308] (by rfl) rfl rfl (by (try simp only [List.map_toArray, List.map_cons, List.map_nil]); first | done | rfl | (simp only [List.length_drop, List.length_take]; rfl)) ?_
                            with_reducible refine (r1_Add.calls kj45 a0_2 t308 t309 t310 _ A60.out).mono ?_
                            rintro e w71 ⟨rfl, hb⟩
                            refine ⟨_, rfl, ?_⟩
                            have n0_ := Aside0.mk (Kd.R_below (by (with_reducible repeat (first | apply Kd.R_alloc | apply Kd.R_drewN | apply Kd.R_drew)); exact HO307.out) hb)
                            have n1_ := Aside0.mk (blk_below (g := gb287) (o := .cells #[.bool a0_0, .string a0_1, .string a0_2] 23 (0, 0)) (by (with_reducible repeat (first | refine blk_drewN ?_ _ | refine blk_drew ?_ | refine blk_alloc ?_ _)); exact BK287.out) hb)
                            have n2_ := Aside0.mk (below_step (by repeat (first | (with_reducible first | exact HB.out | apply below_alloc | apply pw_below_drewN | apply below_drew1 | refine below_set ?_ GE287.out) | exact HB.out)) hb)
                            clear HO307
                            clear BK287
                            clear HB
                            have HO307 := n0_
                            have BK287 := n1_
                            have HB := n2_
                            clear n0_ n1_ n2_
                            (try clear hb)
                            (try clear hb2)
                            (try clear hk)
                            (try clear hi)
                            refine hK.out _ _ ⟨(blk_cell BK287.out 0).trans rfl, (blk_cell BK287.out 1).trans rfl, (blk_cell BK287.out 2).trans rfl⟩ (fun hHeld => ?_)
                            clear hK K
                            refine norm_ (a' := ?_) ?_ ?_
                            rotate_left
                            ·show Act.put _ (some 123) _ = _
                             simp only [Act.put, List.setIfInBounds_toArray, List.set_cons_zero, List.set_cons_succ, i64_w, i32_w]
                             rfl
                            refine pure_ (i := 6) (N := some 117) (v := ?_) (a' := ?_) #[true, true, true, true, true, true, true, false, false, false, false] rfl rfl (any_of HT_.out (by kernel_rfl)) (fun _ _ _ h => h) (Or.inl ⟨by rfl, ?_⟩) ?_ ?_
                            rotate_left
                            ·intro w'
                             go_simp
                             with_reducible rfl
                            rotate_left
                            ·simp only [Act.put, List.setIfInBounds_toArray, List.set_cons_zero, List.set_cons_succ, i64_w, i32_w]
                             rfl
                            refine pure_ (i := 7) (N := some 124) (v := ?_) (a' := ?_) #[true, true, true, true, true, true, true, true, false, false, false] rfl rfl (any_of HT_.out (by kernel_rfl)) (fun _ _ _ h => h) (Or.inl ⟨by rfl, ?_⟩) ?_ ?_
                            rotate_left
                            ·intro w'
                             go_simp
                             with_reducible rfl
                            rotate_left
                            ·simp only [Act.put, List.setIfInBounds_toArray, List.set_cons_zero, List.set_cons_succ, i64_w, i32_w]
                             rfl
                            refine pure_ (i := 8) (N := some 125) (v := ?_) (a' := ?_) #[true, true, true, true, true, true, true, true, true, false, false] rfl rfl (any_of HT_.out (by kernel_rfl)) (fun _ _ _ h => h) (Or.inl ⟨by rfl, ?_⟩) ?_ ?_
                            rotate_left
                            ·intro w'
                             go_simp
                             with_reducible rfl
                            rotate_left
                            ·simp only [Act.put, List.setIfInBounds_toArray, List.set_cons_zero, List.set_cons_succ, i64_w, i32_w]
                             rfl
                            refine pure_ (i := 9) (N := some 9) (v := ?_) (a' := ?_) #[true, true, true, true, true, true, true, true, true, true, false] rfl rfl (any_of HT_.out (by kernel_rfl)) (fun _ _ _ h => h) (Or.inl ⟨by rfl, ?_⟩) ?_ ?_
                            rotate_left
                            ·intro w'
                             go_simp
                             with_reducible rfl
                            rotate_left
                            ·simp only [Act.put, List.setIfInBounds_toArray, List.set_cons_zero, List.set_cons_succ, i64_w, i32_w]
                             rfl
                            refine pure_ (i := 10) (N := some 10) (v := ?_) (a' := ?_) #[true, true, true, true, true, true, true, true, true, true, true] rfl rfl (any_of HT_.out (by kernel_rfl)) (fun _ _ _ h => h) (Or.inl ⟨by rfl, ?_⟩) ?_ ?_
                            rotate_left
                            ·intro w'
                             go_simp
                             with_reducible rfl
                            rotate_left
                            ·simp only [Act.put, List.setIfInBounds_toArray, List.set_cons_zero, List.set_cons_succ, i64_w, i32_w]
                             rfl
                            refine done_ (done_of HT_.out (by kernel_rfl)) ?_
                            try go_wp2
                            have n0_ := Aside0.mk (Kd.R_drew HO307.out)
                            have n1_ := Aside0.mk (blk_drew BK287.out)
                            have n2_ := Aside0.mk (below_drew1 HB.out)
                            clear HO307
                            clear BK287
                            clear HB
                            have HO307 := n0_
                            have BK287 := n1_
                            have HB := n2_
                            clear n0_ n1_ n2_
                            refine start_ (n := 9) (S := fun w' => True) (ds := []) #[false, false, false, false, false, false, false, false, false] (by kernel_rfl) rfl rfl trivial (fun hHeld => ?_); refine with_tabW r1_PlainNum.tab21 r1_PlainNum.bits21 (fun HT_ HW_ => ?_)
                            generalize w71.drew = w72 at HO307 BK287 HB hHeld ⊢
                            refine pure_ (i := 0) (N := some 126) (v := ?_) (a' := ?_) #[true, false, false, false, false, false, false, false, false] rfl rfl (any_of HT_.out (by kernel_rfl)) (fun _ _ _ h => h) (Or.inl ⟨by rfl, ?_⟩) ?_ ?_
                            rotate_left
                            ·intro w'
                             go_simp
                             with_reducible rfl
                            rotate_left
                            ·simp only [Act.put, List.setIfInBounds_toArray, List.set_cons_zero, List.set_cons_succ, i64_w, i32_w]
                             rfl
                            refine pure_ (i := 1) (N := some 127) (v := ?_) (a' := ?_) #[true, true, false, false, false, false, false, false, false] rfl rfl (any_of HT_.out (by kernel_rfl)) (fun _ _ _ h => h) (Or.inl ⟨by rfl, ?_⟩) ?_ ?_
                            rotate_left
                            ·intro w'
                             go_simp
                             with_reducible rfl
                            rotate_left
                            ·simp only [Act.put, List.setIfInBounds_toArray, List.set_cons_zero, List.set_cons_succ, i64_w, i32_w]
                             rfl
                            refine pure_ (i := 2) (N := some 128) (v := ?_) (a' := ?_) #[true, true, true, false, false, false, false, false, false] rfl rfl (any_of HT_.out (by kernel_rfl)) (fun _ _ _ h => h) (Or.inl ⟨by rfl, ?_⟩) ?_ ?_
                            rotate_left
                            ·intro w'
                             go_simp
                             with_reducible rfl
                            rotate_left
                            ·simp only [Act.put, List.setIfInBounds_toArray, List.set_cons_zero, List.set_cons_succ, i64_w, i32_w]
                             rfl
                            refine pure_ (i := 3) (N := some 129) (v := ?_) (a' := ?_) #[true, true, true, true, false, false, false, false, false] rfl rfl (any_of HT_.out (by kernel_rfl)) (fun _ _ _ h => h) (Or.inl ⟨by rfl, ?_⟩) ?_ ?_
                            rotate_left
                            ·intro w'
                             go_simp
                             with_reducible rfl
                            rotate_left
                            ·simp only [Act.put, List.setIfInBounds_toArray, List.set_cons_zero, List.set_cons_succ, i64_w, i32_w]
                             rfl
                            refine pure_ (i := 4) (N := some 130) (v := ?_) (a' := ?_) #[true, true, true, true, true, false, false, false, false] rfl rfl (any_of HT_.out (by kernel_rfl)) (fun _ _ _ h => h) (Or.inl ⟨by rfl, ?_⟩) ?_ ?_
                            rotate_left
                            ·intro w'
                             go_simp
                             with_reducible rfl
                            rotate_left
                            ·simp only [Act.put, List.setIfInBounds_toArray, List.set_cons_zero, List.set_cons_succ, i64_w, i32_w]
                             rfl
                            refine pure_ (i := 5) (N := some 131) (v := ?_) (a' := ?_) #[true, true, true, true, true, true, false, false, false] rfl rfl (any_of HT_.out (by kernel_rfl)) (fun _ _ _ h => h) (Or.inl ⟨by rfl, ?_⟩) ?_ ?_
                            rotate_left
                            ·intro w'
                             go_simp
                             with_reducible rfl
                            rotate_left
                            ·simp only [Act.put, List.setIfInBounds_toArray, List.set_cons_zero, List.set_cons_succ, i64_w, i32_w]
                             rfl
                            refine pure_ (i := 6) (N := some 132) (v := ?_) (a' := ?_) #[true, true, true, true, true, true, true, false, false] rfl rfl (any_of HT_.out (by kernel_rfl)) (fun _ _ _ h => h) (Or.inl ⟨by rfl, ?_⟩) ?_ ?_
                            rotate_left
                            ·intro w'
                             go_simp
                             with_reducible rfl
                            rotate_left
                            ·simp only [Act.put, List.setIfInBounds_toArray, List.set_cons_zero, List.set_cons_succ, i64_w, i32_w]
                             rfl
                            refine pure_ (i := 7) (N := some 133) (v := ?_) (a' := ?_) #[true, true, true, true, true, true, true, true, false] rfl rfl (any_of HT_.out (by kernel_rfl)) (fun _ _ _ h => h) (Or.inl ⟨by rfl, ?_⟩) ?_ ?_
                            rotate_left
                            ·intro w'
                             go_simp
                             with_reducible rfl
                            rotate_left
                            ·simp only [Act.put, List.setIfInBounds_toArray, List.set_cons_zero, List.set_cons_succ, i64_w, i32_w]
                             rfl
                            refine pure_ (i := 8) (N := some 11) (v := ?_) (a' := ?_) #[true, true, true, true, true, true, true, true, true] rfl rfl (any_of HT_.out (by kernel_rfl)) (fun _ _ _ h => h) (Or.inl ⟨by rfl, ?_⟩) ?_ ?_
                            rotate_left
                            ·intro w'
                             go_simp
                             with_reducible rfl
                            rotate_left
                            ·simp only [Act.put, List.setIfInBounds_toArray, List.set_cons_zero, List.set_cons_succ, i64_w, i32_w]
                             rfl
                            refine done_ (done_of HT_.out (by kernel_rfl)) ?_
                            try go_wp2
                            go_ret
                            exact ⟨_, by first | rfl | (simp [errW_none, errW_some] <;> rfl) | (simp [*, errW_none, errW_some] <;> rfl), by (with_reducible repeat (first | apply Kd.R_alloc | apply Kd.R_drewN | apply Kd.R_drew)); exact HO307.out, by repeat (first | (with_reducible first | exact HB.out | apply below_alloc | apply pw_below_drewN | apply below_drew1 | refine below_set ?_ GE287.out) | exact HB.out)⟩
                           ·rw [if_neg c67] at H
                            have c67b0 : (t309.toList == ([48] : List UInt8)) = false := beq_eq_false_iff_ne.mpr c67
                            have c67b1 : (t309.toList != ([48] : List UInt8)) = true := bne_iff_ne.mpr c67
                            by_cases c73 : (((x3_3 ++ (a0_1.extract 0 1)) ++ (⟨#[46]⟩ : ByteArray)) ++ (a0_1.extract 1 a0_1.size)).size + 1 ≤ 9223372036854775807
                            ·rw [if_pos c73] at H
                             have c73b0 := eq_true c73
                             have c73b1 : decide ((((x3_3 ++ (a0_1.extract 0 1)) ++ (⟨#[46]⟩ : ByteArray)) ++ (a0_1.extract 1 a0_1.size)).size + 1 ≤ 9223372036854775807) = true := decide_eq_true c73
                             try have c73b2 : (9223372036854775807 < (((x3_3 ++ (a0_1.extract 0 1)) ++ (⟨#[46]⟩ : ByteArray)) ++ (a0_1.extract 1 a0_1.size)).size + 1) = False := eq_false (Nat.not_lt.2 c73)
                             (try (have c73b3 : (9223372036854775807 < x3_3.size + 1 + 1 + (a0_1.size - 1) + 1) = False := eq_false (Nat.not_lt.2 (by have h_ := c73; have e0_ : (⟨#[46]⟩ : ByteArray).size = 1 := rfl; (try simp only [ByteArray.size_append, ByteArray.size_extract, e0_] at h_); (try simp only [decide_eq_true_eq] at *); omega))))
                             (try (have c73b4 : (9223372036854775807 < x3_3.size + min 1 a0_1.size + 1 + (a0_1.size - 1) + 1) = False := eq_false (Nat.not_lt.2 (by have h_ := c73; have e0_ : (⟨#[46]⟩ : ByteArray).size = 1 := rfl; (try simp only [ByteArray.size_append, ByteArray.size_extract, e0_] at h_); (try simp only [decide_eq_true_eq] at *); omega))))
                             by_cases c74 : ((((x3_3 ++ (a0_1.extract 0 1)) ++ (⟨#[46]⟩ : ByteArray)) ++ (a0_1.extract 1 a0_1.size)) ++ (⟨#[101]⟩ : ByteArray)).size + t309.size ≤ 9223372036854775807
                             ·rw [if_pos c74] at H
                              have c74b0 := eq_true c74
                              have c74b1 : decide (((((x3_3 ++ (a0_1.extract 0 1)) ++ (⟨#[46]⟩ : ByteArray)) ++ (a0_1.extract 1 a0_1.size)) ++ (⟨#[101]⟩ : ByteArray)).size + t309.size ≤ 9223372036854775807) = true := decide_eq_true c74
                              try have c74b2 : (9223372036854775807 < ((((x3_3 ++ (a0_1.extract 0 1)) ++ (⟨#[46]⟩ : ByteArray)) ++ (a0_1.extract 1 a0_1.size)) ++ (⟨#[101]⟩ : ByteArray)).size + t309.size) = False := eq_false (Nat.not_lt.2 c74)
                              (try (have c74b3 : (9223372036854775807 < x3_3.size + 1 + 1 + (a0_1.size - 1) + 1 + t309.size) = False := eq_false (Nat.not_lt.2 (by have h_ := c74; have e0_ : (⟨#[101]⟩ : ByteArray).size = 1 := rfl; have e1_ : (⟨#[46]⟩ : ByteArray).size = 1 := rfl; (try simp only [ByteArray.size_append, ByteArray.size_extract, e0_, e1_] at h_); (try simp only [decide_eq_true_eq] at *); omega))))
                              (try (have c74b4 : (9223372036854775807 < x3_3.size + min 1 a0_1.size + 1 + (a0_1.size - 1) + 1 + t309.size) = False := eq_false (Nat.not_lt.2 (by have h_ := c74; have e0_ : (⟨#[101]⟩ : ByteArray).size = 1 := rfl; have e1_ : (⟨#[46]⟩ : ByteArray).size = 1 := rfl; (try simp only [ByteArray.size_append, ByteArray.size_extract, e0_, e1_] at h_); (try simp only [decide_eq_true_eq] at *); omega))))
                              by_cases c75 : y305.length < 8796093022208
                              ·rw [if_pos c75] at H
                               have LMc75 := Aside0.mk c75
                               clear c75
                               obtain ⟨y311, hy311⟩ : ∃ y_ : List ByteArray, y_ = (y305 ++ [((((x3_3 ++ (a0_1.extract 0 1)) ++ (⟨#[46]⟩ : ByteArray)) ++ (a0_1.extract 1 a0_1.size)) ++ (⟨#[101]⟩ : ByteArray)) ++ t309]) := ⟨_, rfl⟩
                               replace H : (some y311) = some r := by first | (rw [hy311]; with_reducible exact H) | (have H2_ := (Option.bind_some _ _).symm.trans H; rw [hy311]; with_reducible exact H2_) | (have H2_ := (Option.bind_some _ _).symm.trans H; with_reducible exact H2_) | with_reducible exact H | (rw [hy311]; exact H) | exact H
                               have Ny311 := Aside0.mk hy311
                               clear hy311
                               obtain rfl := Option.some.inj H
                               have hcz76_0 : wc.cell? ⟨gb287, 0, none⟩ = some (.bool a0_0) := (blk_cell BK287.out 0).trans rfl
                               have hcz76_1 : wc.cell? ⟨gb287, 1, none⟩ = some (.string a0_1) := (blk_cell BK287.out 1).trans rfl
                               have hcz76_2 : wc.cell? ⟨gb287, 2, none⟩ = some (.string a0_2) := (blk_cell BK287.out 2).trans rfl
                               have hfz76_0 := blk_frozen BK287.out 0
                               have hfz76_1 := blk_frozen BK287.out 1
                               have hfz76_2 := blk_frozen BK287.out 2
                               try go_wp2_with (first | ((with_reducible refine gate_builtin (b := .append) (xs := #[.tmp 105, .tmp 113]) rfl ?_); at_builtin; refine Kd.R_append Kd.string (w0 := w) w.heap.size rfl (.tmp 105) (.tmp 113) 29 9 (.string ⟨#[]⟩) 16 rfl Tryz.underlying29 info9 rfl (by decide) (by omega) u5 x5_45 (((x3_3 ++ a0_1) ++ (⟨#[101]⟩ : ByteArray)) ++ a0_2) [.string (((x3_3 ++ a0_1) ++ (⟨#[101]⟩ : ByteArray)) ++ a0_2)] (fun _ => True) (fun _ => False) rfl rfl ?aP (fun _ hk => hk.elim) ?aF ?aO ?aB ?aS ?aL ?_; (case aP => exact rfl); (case aB => exact (by repeat (first | (with_reducible first | exact HB.out | apply below_alloc | apply pw_below_drewN | apply below_drew1 | refine below_set ?_ GE287.out) | exact HB.out))); (case aF => exact (fun _ _ => trivial)); (case aO => exact (by (with_reducible repeat (first | apply Kd.R_alloc | apply Kd.R_drewN | apply Kd.R_drew)); exact HO_5.out)); (case aS => exact (below_size (by repeat (first | (with_reducible first | exact HB.out | apply below_alloc | apply pw_below_drewN | apply below_drew1 | refine below_set ?_ GE287.out) | exact HB.out)))); (case aL => have := LMc57.out; omega); intro v306 w77 ho hb hg hat; rw [← Ny305.out] at ho; have n0_ := Aside0.mk (blk_grown (g := gb287) (o := .cells #[.bool a0_0, .string a0_1, .string a0_2] 23 (0, 0)) (by (with_reducible repeat (first | refine blk_drewN ?_ _ | refine blk_drew ?_ | refine blk_alloc ?_ _)); exact BK287.out) hg (Kd.R_ne HO_5.out BK287.out (by decide))); have n1_ := Aside0.mk (hb); have n2_ := Aside0.mk (ho); clear BK287; clear HB; clear HO_5; have BK287 := n0_; have HB := n1_; have HO307 := n2_; clear n0_ n1_ n2_; clear ho hb hg hat))
                               have n0_ := Aside0.mk (Kd.R_drew HO307.out)
                               have n1_ := Aside0.mk (blk_drew BK287.out)
                               have n2_ := Aside0.mk (below_drew1 HB.out)
                               clear HO307
                               clear BK287
                               clear HB
                               have HO307 := n0_
                               have BK287 := n1_
                               have HB := n2_
                               clear n0_ n1_ n2_
                               refine start_ (n := 11) (S := fun w' => w'.cell? ⟨gb287, 0, none⟩ = some (.bool a0_0) ∧ w'.cell? ⟨gb287, 1, none⟩ = some (.string a0_1) ∧ w'.cell? ⟨gb287, 2, none⟩ = some (.string a0_2)) (ds := []) #[false, false, false, false, false, false, false, false, false, false, false] (by kernel_rfl) rfl rfl ⟨(blk_cell BK287.out 0).trans rfl, (blk_cell BK287.out 1).trans rfl, (blk_cell BK287.out 2).trans rfl⟩ (fun hHeld => ?_); refine with_tabW r1_PlainNum.tab20 r1_PlainNum.bits20 (fun HT_ HW_ => ?_)
                               generalize w77.drew = w78 at HO307 BK287 HB hHeld ⊢
                               refine pure_ (i := 0) (N := some 118) (v := ?_) (a' := ?_) #[true, false, false, false, false, false, false, false, false, false, false] rfl rfl (any_of HT_.out (by kernel_rfl)) (fun _ _ _ h => h) (Or.inl ⟨by rfl, ?_⟩) ?_ ?_
                               rotate_left
                               ·intro w'
                                go_simp
                                with_reducible rfl
                               rotate_left
                               ·simp only [Act.put, List.setIfInBounds_toArray, List.set_cons_zero, List.set_cons_succ, i64_w, i32_w]
                                rfl
                               refine pure_ (i := 2) (N := some 120) (v := ?_) (a' := ?_) #[true, false, true, false, false, false, false, false, false, false, false] rfl rfl (any_of HT_.out (by kernel_rfl)) (fun _ _ _ h => h) (Or.inl ⟨by rfl, ?_⟩) ?_ ?_
                               rotate_left
                               ·intro w'
                                go_simp
                                with_reducible rfl
                               rotate_left
                               ·simp only [Act.put, List.setIfInBounds_toArray, List.set_cons_zero, List.set_cons_succ, i64_w, i32_w]
                                rfl
                               refine pure_ (i := 3) (N := some 121) (v := ?_) (a' := ?_) #[true, false, true, true, false, false, false, false, false, false, false] rfl rfl (any_of HT_.out (by kernel_rfl)) (fun _ _ _ h => h) (Or.inl ⟨by rfl, ?_⟩) ?_ ?_
                               rotate_left
                               ·intro w'
                                go_simp
                                with_reducible rfl
                               rotate_left
                               ·simp only [Act.put, List.setIfInBounds_toArray, List.set_cons_zero, List.set_cons_succ, i64_w, i32_w]
                                rfl
                               refine take_ (i := 1) (N := some 119) (v := ?_) (a' := ?_) #[true, true, true, true, false, false, false, false, false, false, false] rfl rfl (take_ofW HT_.out HW_.out (by kernel_rfl)) (fun _ _ _ h => h) (Or.inl ⟨by rfl, ?_⟩) hHeld ?_ ?_
                               rotate_left
                               ·rintro w' ⟨s0, s1, s2⟩
                                go_simp
                                with_reducible rfl
                               rotate_left
                               ·simp only [Act.put, List.setIfInBounds_toArray, List.set_cons_zero, List.set_cons_succ, i64_w, i32_w]
                                rfl
                               refine one_ (i := 4) (N := some 122) #[true, true, true, true, true, false, false, false, false, false, false] rfl rfl (one_of HT_.out (by kernel_rfl)) (by decide) (fun K hK => ?_)
                               refine goes_ Tryz.func29 (by kernel_rfl) rfl #[.int .i64 (wrap64 ((a0_1.size : Int) - 1))] (by rfl) rfl rfl (by (try simp only [List.map_toArray, List.map_cons, List.map_nil]); first | done | rfl | (simp only [List.length_drop, List.length_take]; rfl)) ?_
                               with_reducible refine (r1_Dec.calls kj45 (wrap64 ((a0_1.size : Int) - 1)) t308 _ A59.out).mono ?_
                               rintro e w' ⟨rfl, ⟨nd, rfl⟩⟩
                               refine ⟨_, rfl, ?_⟩
                               refine hK.out _ _ ⟨(blk_cell BK287.out 0).trans rfl, (blk_cell BK287.out 1).trans rfl, (blk_cell BK287.out 2).trans rfl⟩ (fun hHeld => ?_)
                               clear hK K
                               refine norm_ (a' := ?_) ?_ ?_
                               rotate_left
                               ·show Act.put _ (some 122) _ = _
                                simp only [Act.put, List.setIfInBounds_toArray, List.set_cons_zero, List.set_cons_succ, i64_w, i32_w]
                                rfl
                               refine one_ (i := 5) (N := some 123) #[true, true, true, true, true, true, false, false, false, false, false] rfl rfl (one_of HT_.out (by kernel_rfl)) (by decide) (fun K hK => ?_)
                               refine goes_ Tryz.func28 (by kernel_rfl) rfl #[.string a0_2, .string t308] (by rfl) rfl rfl (by (try simp only [List.map_toArray, List.map_cons, List.map_nil]); first | done | rfl | (simp only [List.length_drop, List.length_take]; rfl)) ?_
                               with_reducible refine (r1_Add.calls kj45 a0_2 t308 t309 t310 _ A60.out).mono ?_
                               rintro e w79 ⟨rfl, hb⟩
                               refine ⟨_, rfl, ?_⟩
                               have n0_ := Aside0.mk (Kd.R_below (by (with_reducible repeat (first | apply Kd.R_alloc | apply Kd.R_drewN | apply Kd.R_drew)); exact HO307.out) hb)
                               have n1_ := Aside0.mk (blk_below (g := gb287) (o := .cells #[.bool a0_0, .string a0_1, .string a0_2] 23 (0, 0)) (by (with_reducible repeat (first | refine blk_drewN ?_ _ | refine blk_drew ?_ | refine blk_alloc ?_ _)); exact BK287.out) hb)
                               have n2_ := Aside0.mk (below_step (by repeat (first | (with_reducible first | exact HB.out | apply below_alloc | apply pw_below_drewN | apply below_drew1 | refine below_set ?_ GE287.out) | exact HB.out)) hb)
                               clear HO307
                               clear BK287
                               clear HB
                               have HO307 := n0_
                               have BK287 := n1_
                               have HB := n2_
                               clear n0_ n1_ n2_
                               (try clear hb)
                               (try clear hb2)
                               (try clear hk)
                               (try clear hi)
                               refine hK.out _ _ ⟨(blk_cell BK287.out 0).trans rfl, (blk_cell BK287.out 1).trans rfl, (blk_cell BK287.out 2).trans rfl⟩ (fun hHeld => ?_)
                               clear hK K
                               refine norm_ (a' := ?_) ?_ ?_
                               rotate_left
                               ·show Act.put _ (some 123) _ = _
                                simp only [Act.put, List.setIfInBounds_toArray, List.set_cons_zero, List.set_cons_succ, i64_w, i32_w]
                                rfl
                               refine pure_ (i := 6) (N := some 117) (v := ?_) (a' := ?_) #[true, true, true, true, true, true, true, false, false, false, false] rfl rfl (any_of HT_.out (by kernel_rfl)) (fun _ _ _ h => h) (Or.inl ⟨by rfl, ?_⟩) ?_ ?_
                               rotate_left
                               ·intro w'
                                go_simp
                                with_reducible rfl
                               rotate_left
                               ·simp only [Act.put, List.setIfInBounds_toArray, List.set_cons_zero, List.set_cons_succ, i64_w, i32_w]
                                rfl
                               refine pure_ (i := 7) (N := some 124) (v := ?_) (a' := ?_) #[true, true, true, true, true, true, true, true, false, false, false] rfl rfl (any_of HT_.out (by kernel_rfl)) (fun _ _ _ h => h) (Or.inl ⟨by rfl, ?_⟩) ?_ ?_
                               rotate_left
                               ·intro w'
                                go_simp
                                with_reducible rfl
                               rotate_left
                               ·simp only [Act.put, List.setIfInBounds_toArray, List.set_cons_zero, List.set_cons_succ, i64_w, i32_w]
                                rfl
                               refine pure_ (i := 8) (N := some 125) (v := ?_) (a' := ?_) #[true, true, true, true, true, true, true, true, true, false, false] rfl rfl (any_of HT_.out (by kernel_rfl)) (fun _ _ _ h => h) (Or.inl ⟨by rfl, ?_⟩) ?_ ?_
                               rotate_left
                               ·intro w'
                                go_simp
                                with_reducible rfl
                               rotate_left
                               ·simp only [Act.put, List.setIfInBounds_toArray, List.set_cons_zero, List.set_cons_succ, i64_w, i32_w]
                                rfl
                               refine pure_ (i := 9) (N := some 9) (v := ?_) (a' := ?_) #[true, true, true, true, true, true, true, true, true, true, false] rfl rfl (any_of HT_.out (by kernel_rfl)) (fun _ _ _ h => h) (Or.inl ⟨by rfl, ?_⟩) ?_ ?_
                               rotate_left
                               ·intro w'
                                go_simp
                                with_reducible rfl
                               rotate_left
                               ·simp only [Act.put, List.setIfInBounds_toArray, List.set_cons_zero, List.set_cons_succ, i64_w, i32_w]
                                rfl
                               refine pure_ (i := 10) (N := some 10) (v := ?_) (a' := ?_) #[true, true, true, true, true, true, true, true, true, true, true] rfl rfl (any_of HT_.out (by kernel_rfl)) (fun _ _ _ h => h) (Or.inl ⟨by rfl, ?_⟩) ?_ ?_
                               rotate_left
                               ·intro w'
                                go_simp
                                with_reducible rfl
                               rotate_left
                               ·simp only [Act.put, List.setIfInBounds_toArray, List.set_cons_zero, List.set_cons_succ, i64_w, i32_w]
                                rfl
                               refine done_ (done_of HT_.out (by kernel_rfl)) ?_
                               try go_wp2
                               have n0_ := Aside0.mk (Kd.R_drew HO307.out)
                               have n1_ := Aside0.mk (blk_drew BK287.out)
                               have n2_ := Aside0.mk (below_drew1 HB.out)
                               clear HO307
                               clear BK287
                               clear HB
                               have HO307 := n0_
                               have BK287 := n1_
                               have HB := n2_
                               clear n0_ n1_ n2_
                               refine start_ (n := 9) (S := fun w' => True) (ds := []) #[false, false, false, false, false, false, false, false, false] (by kernel_rfl) rfl rfl trivial (fun hHeld => ?_); refine with_tabW r1_PlainNum.tab21 r1_PlainNum.bits21 (fun HT_ HW_ => ?_)
                               generalize w79.drew = w80 at HO307 BK287 HB hHeld ⊢
                               refine pure_ (i := 0) (N := some 126) (v := ?_) (a' := ?_) #[true, false, false, false, false, false, false, false, false] rfl rfl (any_of HT_.out (by kernel_rfl)) (fun _ _ _ h => h) (Or.inl ⟨by rfl, ?_⟩) ?_ ?_
                               rotate_left
                               ·intro w'
                                go_simp
                                with_reducible rfl
                               rotate_left
                               ·simp only [Act.put, List.setIfInBounds_toArray, List.set_cons_zero, List.set_cons_succ, i64_w, i32_w]
                                rfl
                               refine pure_ (i := 1) (N := some 127) (v := ?_) (a' := ?_) #[true, true, false, false, false, false, false, false, false] rfl rfl (any_of HT_.out (by kernel_rfl)) (fun _ _ _ h => h) (Or.inl ⟨by rfl, ?_⟩) ?_ ?_
                               rotate_left
                               ·intro w'
                                go_simp
                                with_reducible rfl
                               rotate_left
                               ·simp only [Act.put, List.setIfInBounds_toArray, List.set_cons_zero, List.set_cons_succ, i64_w, i32_w]
                                rfl
                               refine pure_ (i := 2) (N := some 128) (v := ?_) (a' := ?_) #[true, true, true, false, false, false, false, false, false] rfl rfl (any_of HT_.out (by kernel_rfl)) (fun _ _ _ h => h) (Or.inl ⟨by rfl, ?_⟩) ?_ ?_
                               rotate_left
                               ·intro w'
                                go_simp
                                with_reducible rfl
                               rotate_left
                               ·simp only [Act.put, List.setIfInBounds_toArray, List.set_cons_zero, List.set_cons_succ, i64_w, i32_w]
                                rfl
                               refine pure_ (i := 3) (N := some 129) (v := ?_) (a' := ?_) #[true, true, true, true, false, false, false, false, false] rfl rfl (any_of HT_.out (by kernel_rfl)) (fun _ _ _ h => h) (Or.inl ⟨by rfl, ?_⟩) ?_ ?_
                               rotate_left
                               ·intro w'
                                go_simp
                                with_reducible rfl
                               rotate_left
                               ·simp only [Act.put, List.setIfInBounds_toArray, List.set_cons_zero, List.set_cons_succ, i64_w, i32_w]
                                rfl
                               refine pure_ (i := 4) (N := some 130) (v := ?_) (a' := ?_) #[true, true, true, true, true, false, false, false, false] rfl rfl (any_of HT_.out (by kernel_rfl)) (fun _ _ _ h => h) (Or.inl ⟨by rfl, ?_⟩) ?_ ?_
                               rotate_left
                               ·intro w'
                                go_simp
                                with_reducible rfl
                               rotate_left
                               ·simp only [Act.put, List.setIfInBounds_toArray, List.set_cons_zero, List.set_cons_succ, i64_w, i32_w]
                                rfl
                               refine pure_ (i := 5) (N := some 131) (v := ?_) (a' := ?_) #[true, true, true, true, true, true, false, false, false] rfl rfl (any_of HT_.out (by kernel_rfl)) (fun _ _ _ h => h) (Or.inl ⟨by rfl, ?_⟩) ?_ ?_
                               rotate_left
                               ·intro w'
                                go_simp
                                with_reducible rfl
                               rotate_left
                               ·simp only [Act.put, List.setIfInBounds_toArray, List.set_cons_zero, List.set_cons_succ, i64_w, i32_w]
                                rfl
                               refine pure_ (i := 6) (N := some 132) (v := ?_) (a' := ?_) #[true, true, true, true, true, true, true, false, false] rfl rfl (any_of HT_.out (by kernel_rfl)) (fun _ _ _ h => h) (Or.inl ⟨by rfl, ?_⟩) ?_ ?_
                               rotate_left
                               ·intro w'
                                go_simp
                                with_reducible rfl
                               rotate_left
                               ·simp only [Act.put, List.setIfInBounds_toArray, List.set_cons_zero, List.set_cons_succ, i64_w, i32_w]
                                rfl
                               refine pure_ (i := 7) (N := some 133) (v := ?_) (a' := ?_) #[true, true, true, true, true, true, true, true, false] rfl rfl (any_of HT_.out (by kernel_rfl)) (fun _ _ _ h => h) (Or.inl ⟨by rfl, ?_⟩) ?_ ?_
                               rotate_left
                               ·intro w'
                                go_simp
                                with_reducible rfl
                               rotate_left
                               ·simp only [Act.put, List.setIfInBounds_toArray, List.set_cons_zero, List.set_cons_succ, i64_w, i32_w]
                                rfl
                               refine pure_ (i := 8) (N := some 11) (v := ?_) (a' := ?_) #[true, true, true, true, true, true, true, true, true] rfl rfl (any_of HT_.out (by kernel_rfl)) (fun _ _ _ h => h) (Or.inl ⟨by rfl, ?_⟩) ?_ ?_
                               rotate_left
                               ·intro w'
                                go_simp
                                with_reducible rfl
                               rotate_left
                               ·simp only [Act.put, List.setIfInBounds_toArray, List.set_cons_zero, List.set_cons_succ, i64_w, i32_w]
                                rfl
                               refine done_ (done_of HT_.out (by kernel_rfl)) ?_
                               try go_wp2_with (first | ((with_reducible refine gate_builtin (b := .append) (xs := #[.tmp 136, .tmp 141]) rfl ?_); at_builtin; refine Kd.R_append Kd.string (w0 := w) w.heap.size rfl (.tmp 136) (.tmp 141) 29 9 (.string ⟨#[]⟩) 16 rfl Tryz.underlying29 info9 rfl (by decide) (by omega) v306 y305 (((((x3_3 ++ (a0_1.extract 0 1)) ++ (⟨#[46]⟩ : ByteArray)) ++ (a0_1.extract 1 a0_1.size)) ++ (⟨#[101]⟩ : ByteArray)) ++ t309) [.string (((((x3_3 ++ (a0_1.extract 0 1)) ++ (⟨#[46]⟩ : ByteArray)) ++ (a0_1.extract 1 a0_1.size)) ++ (⟨#[101]⟩ : ByteArray)) ++ t309)] (fun _ => True) (fun _ => False) rfl rfl ?aP (fun _ hk => hk.elim) ?aF ?aO ?aB ?aS ?aL ?_; (case aP => exact rfl); (case aB => exact (by repeat (first | (with_reducible first | exact HB.out | apply below_alloc | apply pw_below_drewN | apply below_drew1 | refine below_set ?_ GE287.out) | exact HB.out))); (case aF => exact (fun _ _ => trivial)); (case aO => exact (by (with_reducible repeat (first | apply Kd.R_alloc | apply Kd.R_drewN | apply Kd.R_drew)); exact HO307.out)); (case aS => exact (below_size (by repeat (first | (with_reducible first | exact HB.out | apply below_alloc | apply pw_below_drewN | apply below_drew1 | refine below_set ?_ GE287.out) | exact HB.out)))); (case aL => have := LMc75.out; omega); intro v312 w81 ho hb hg hat; rw [← Ny311.out] at ho; have n0_ := Aside0.mk (blk_grown (g := gb287) (o := .cells #[.bool a0_0, .string a0_1, .string a0_2] 23 (0, 0)) (by (with_reducible repeat (first | refine blk_drewN ?_ _ | refine blk_drew ?_ | refine blk_alloc ?_ _)); exact BK287.out) hg (Kd.R_ne HO307.out BK287.out (by decide))); have n1_ := Aside0.mk (hb); have n2_ := Aside0.mk (ho); clear BK287; clear HB; clear HO307; have BK287 := n0_; have HB := n1_; have HO313 := n2_; clear n0_ n1_ n2_; clear ho hb hg hat))
                               go_ret
                               exact ⟨_, by first | rfl | (simp [errW_none, errW_some] <;> rfl) | (simp [*, errW_none, errW_some] <;> rfl), by (with_reducible repeat (first | apply Kd.R_alloc | apply Kd.R_drewN | apply Kd.R_drew)); exact HO313.out, by repeat (first | (with_reducible first | exact HB.out | apply below_alloc | apply pw_below_drewN | apply below_drew1 | refine below_set ?_ GE287.out) | exact HB.out)⟩
                              ·rw [if_neg c75] at H
                               exact absurd H (by simp)
                             ·rw [if_neg c74] at H
                              exact absurd H (by simp)
                            ·rw [if_neg c73] at H
                             exact absurd H (by simp)
                          ·rw [if_neg c66] at H
                           exact absurd H (by simp)
                         ·rw [if_neg c64] at H
                          exact absurd H (by simp)
                        ·rw [if_neg c63] at H
                         exact absurd H (by simp)
                       ·rw [if_neg c62] at H
                        exact absurd H (by simp)
                      ·rw [if_neg c61] at H
                       exact absurd H (by simp)
                     ·rw [if_neg c58] at H
                      have c58b0 : decide (1 < (a0_1.size : Int)) = false := decide_eq_false c58
                      have c58b1 : decide (1 < a0_1.size) = false := decide_eq_false (by omega)
                      clear c58
                      obtain rfl := Option.some.inj H
                      have hcz82_0 : wc.cell? ⟨gb287, 0, none⟩ = some (.bool a0_0) := (blk_cell BK287.out 0).trans rfl
                      have hcz82_1 : wc.cell? ⟨gb287, 1, none⟩ = some (.string a0_1) := (blk_cell BK287.out 1).trans rfl
                      have hcz82_2 : wc.cell? ⟨gb287, 2, none⟩ = some (.string a0_2) := (blk_cell BK287.out 2).trans rfl
                      have hfz82_0 := blk_frozen BK287.out 0
                      have hfz82_1 := blk_frozen BK287.out 1
                      have hfz82_2 := blk_frozen BK287.out 2
                      go_wp2_with (first | ((with_reducible refine gate_builtin (b := .append) (xs := #[.tmp 105, .tmp 113]) rfl ?_); at_builtin; refine Kd.R_append Kd.string (w0 := w) w.heap.size rfl (.tmp 105) (.tmp 113) 29 9 (.string ⟨#[]⟩) 16 rfl Tryz.underlying29 info9 rfl (by decide) (by omega) u5 x5_45 (((x3_3 ++ a0_1) ++ (⟨#[101]⟩ : ByteArray)) ++ a0_2) [.string (((x3_3 ++ a0_1) ++ (⟨#[101]⟩ : ByteArray)) ++ a0_2)] (fun _ => True) (fun _ => False) rfl rfl ?aP (fun _ hk => hk.elim) ?aF ?aO ?aB ?aS ?aL ?_; (case aP => exact rfl); (case aB => exact (by repeat (first | (with_reducible first | exact HB.out | apply below_alloc | apply pw_below_drewN | apply below_drew1 | refine below_set ?_ GE287.out) | exact HB.out))); (case aF => exact (fun _ _ => trivial)); (case aO => exact (by (with_reducible repeat (first | apply Kd.R_alloc | apply Kd.R_drewN | apply Kd.R_drew)); exact HO_5.out)); (case aS => exact (below_size (by repeat (first | (with_reducible first | exact HB.out | apply below_alloc | apply pw_below_drewN | apply below_drew1 | refine below_set ?_ GE287.out) | exact HB.out)))); (case aL => have := LMc57.out; omega); intro v306 w83 ho hb hg hat; rw [← Ny305.out] at ho; have n0_ := Aside0.mk (blk_grown (g := gb287) (o := .cells #[.bool a0_0, .string a0_1, .string a0_2] 23 (0, 0)) (by (with_reducible repeat (first | refine blk_drewN ?_ _ | refine blk_drew ?_ | refine blk_alloc ?_ _)); exact BK287.out) hg (Kd.R_ne HO_5.out BK287.out (by decide))); have n1_ := Aside0.mk (hb); have n2_ := Aside0.mk (ho); clear BK287; clear HB; clear HO_5; have BK287 := n0_; have HB := n1_; have HO307 := n2_; clear n0_ n1_ n2_; clear ho hb hg hat))
                      go_ret
                      exact ⟨_, by first | rfl | (simp [errW_none, errW_some] <;> rfl) | (simp [*, errW_none, errW_some] <;> rfl), by (with_reducible repeat (first | apply Kd.R_alloc | apply Kd.R_drewN | apply Kd.R_drew)); exact HO307.out, by repeat (first | (with_reducible first | exact HB.out | apply below_alloc | apply pw_below_drewN | apply below_drew1 | refine below_set ?_ GE287.out) | exact HB.out)⟩
                    ·rw [if_neg c57] at H
                     exact absurd H (by simp)
                   ·rw [if_neg c56] at H
                    exact absurd H (by simp)
                  ·rw [if_neg c55] at H
                   exact absurd H (by simp)
                 ·rw [if_neg c54] at H
                  exact absurd H (by simp)
 ·replace c3 := Bool.eq_false_iff.mpr c3
  subst c3
  have H1 : (some ([] : List ByteArray)) = some r := by rw [if_neg (show ¬ (false = true) by decide)] at H; exact H
  clear H
  have H := H1
  clear H1
  obtain rfl := Option.some.inj H
  go_enter Tryz.func14, Tryz.ntmps14
  go_wp2_with (first | ((with_reducible refine gate_dst (N := 1) rfl ?_); refine box_event ?hg (N := 1) ?hd (cs := #[.bool a0_0, .string a0_1, .string a0_2]) (t := 23) ?hr ?_; (case hd => rfl); (case hg => rfl); (case hr => first | (go_simp; done) | (go_simp; rfl)); intro gb287 hg w84 hbox hb; have n0_ := Aside0.mk (below_step (by repeat (first | (with_reducible first | exact HB.out | apply below_alloc | apply pw_below_drewN | apply below_drew1) | exact HB.out)) hb); have n1_ := Aside0.mk (hbox); have n2_ := Aside0.mk ((by rw [hg]; exact (below_size (by repeat (first | (with_reducible first | exact HB.out | apply below_alloc | apply pw_below_drewN | apply below_drew1) | exact HB.out))) : w.heap.size ≤ gb287)); have n3_ := Aside0.mk ((by rw [hg]; exact (below_size (by repeat (first | (with_reducible first | exact HB.out | apply below_alloc | apply pw_below_drewN | apply below_drew1) | exact HB.out))) : w.heap.size ≤ gb287)); clear HB; have HB := n0_; have BK287 := n1_; have GW287 := n2_; have GE287 := n3_; clear n0_ n1_ n2_ n3_; clear hb hbox hg; have hcz85_0 : w84.cell? ⟨gb287, 0, none⟩ = some (.bool a0_0) := (blk_cell BK287.out 0).trans rfl; have hcz85_1 : w84.cell? ⟨gb287, 1, none⟩ = some (.string a0_1) := (blk_cell BK287.out 1).trans rfl; have hcz85_2 : w84.cell? ⟨gb287, 2, none⟩ = some (.string a0_2) := (blk_cell BK287.out 2).trans rfl; have hfz85_0 := blk_frozen BK287.out 0; have hfz85_1 := blk_frozen BK287.out 1; have hfz85_2 := blk_frozen BK287.out 2) | ((with_reducible refine gate_callee (f := 11) rfl ?_); refine goesL_ (some 13) rfl rfl Tryz.func11 (by kernel_rfl) rfl #[.agg #[.bool a0_0, .string a0_1, .string a0_2]] rfl (by (try simp only [List.map_toArray, List.map_cons, List.map_nil]); first | done | rfl | (simp only [List.length_drop, List.length_take]; rfl)) ?_; (with_reducible refine (r1_RightNum.calls k a0_0 a0_1 a0_2 false _ A2.out).mono ?_); rintro e w86 ⟨rfl, hb⟩; refine ⟨_, rfl, ?_⟩; have n0_ := Aside0.mk (blk_below (g := gb287) (o := .cells #[.bool a0_0, .string a0_1, .string a0_2] 23 (0, 0)) (by (with_reducible repeat (first | refine blk_drewN ?_ _ | refine blk_drew ?_ | refine blk_alloc ?_ _)); exact BK287.out) hb); have n1_ := Aside0.mk (below_step (by repeat (first | (with_reducible first | exact HB.out | apply below_alloc | apply pw_below_drewN | apply below_drew1 | refine below_set ?_ GE287.out) | exact HB.out)) hb); clear BK287; clear HB; have BK287 := n0_; have HB := n1_; clear n0_ n1_; (try clear hb); (try clear hb2); (try clear hk); (try clear hi)))
  go_ret
  exact ⟨_, by first | rfl | (simp [errW_none, errW_some] <;> rfl) | (simp [*, errW_none, errW_some] <;> rfl), by first | exact Kd.R_nil _ _ _ _ _ | exact Kd.N_nil _ _ _ _ _ | exact Kd.V_nil _ _ _ _ _ | exact Kd.Q_nil _ _ _ _ _ | exact Kd.S_nil _ _ _ _ _, by repeat (first | (with_reducible first | exact HB.out | apply below_alloc | apply pw_below_drewN | apply below_drew1 | refine below_set ?_ GE287.out) | exact HB.out)⟩
end Go.Proofs.YthimiidnbnlemaaGreatDoor.P
