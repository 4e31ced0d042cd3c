-- printed by xprint.py (a program of this session's, over the kit's print); Lean checks it
import Derived.Test.YthimiidnbnlemaaGreatDoorNumberTellsPx0
import Derived.Test.YthimiidnbnlemaaGreatDoorNumberTellsPx13
import Derived.Test.YthimiidnbnlemaaGreatDoorNumberTellsPx16
import Derived.Test.YthimiidnbnlemaaGreatDoorNumberTellsPx17
namespace Go.Proofs.YthimiidnbnlemaaGreatDoor.P
open Go.RowKit Go.Proofs.YthimiidnbnlemaaGreatDoorW.PrintWords Go.Proofs.YthimiidnbnlemaaGreatDoorW.PrintLast Go.Proofs.YthimiidnbnlemaaGreatDoorW.PrintMore Go.Proofs.YthimiidnbnlemaaGreatDoorX
attribute [local go_sem] max2_int min2_int max_two min_two max_three min_three max_four min_four   -- for this text's walks alone
set_option linter.unusedVariables false
set_option linter.unusedSimpArgs false
mutual
def r1_ReadNum.j0 : Nat → ByteArray → Int → Bool → Bool → ByteArray → ByteArray → Option (Bool × ByteArray × ByteArray × Bool)
 | 0, _, _, _, _, _, _ => none
 | k + 1, x0, x4, x31, x271000, x271001, x271002 => if x31 = true then (if 0 ≤ x4 then (if x4 < (x0.size : Int) then (r1_ReadNum.j1 k x0 (wrap64 (x4 + 1)) ((bt x0 x4) == 45) x271001 x271002) else (none)) else (none)) else (r1_ReadNum.j1 k x0 x4 x271000 x271001 x271002)
def r1_ReadNum.j1 : Nat → ByteArray → Int → Bool → ByteArray → ByteArray → Option (Bool × ByteArray × ByteArray × Bool)
 | 0, _, _, _, _, _ => none
 | k + 1, x0, x4, x271000, x271001, x271002 => (r1_run.f k x0 x4).bind fun t271 => (if 0 ≤ x4 then (if x4 ≤ t271 then (if t271 ≤ (x0.size : Int) then (if t271 < (x0.size : Int) then (if 0 ≤ t271 then (r1_ReadNum.j2 k x0 t271 (x0.extract (x4 : Int).toNat (t271 : Int).toNat) (⟨#[]⟩ : ByteArray) ((bt x0 t271) == 46) x271000 x271001 x271002) else (none)) else (r1_ReadNum.j2 k x0 t271 (x0.extract (x4 : Int).toNat (t271 : Int).toNat) (⟨#[]⟩ : ByteArray) false x271000 x271001 x271002)) else (none)) else (none)) else (none))
def r1_ReadNum.j2 : Nat → ByteArray → Int → ByteArray → ByteArray → Bool → Bool → ByteArray → ByteArray → Option (Bool × ByteArray × ByteArray × Bool)
 | 0, _, _, _, _, _, _, _, _ => none
 | k + 1, x0, x6, x7, x8, x55, x271000, x271001, x271002 => if x55 = true then ((r1_run.f k x0 (wrap64 (x6 + 1))).bind fun t272 => (if 0 ≤ (wrap64 (x6 + 1)) then (if (wrap64 (x6 + 1)) ≤ t272 then (if t272 ≤ (x0.size : Int) then (if (x0.extract ((wrap64 (x6 + 1)) : Int).toNat (t272 : Int).toNat).toList = ([] : List UInt8) then (some (false, (⟨#[]⟩ : ByteArray), (⟨#[]⟩ : ByteArray), false)) else (r1_ReadNum.j3 k x0 t272 x7 (x0.extract ((wrap64 (x6 + 1)) : Int).toNat (t272 : Int).toNat) x271000 x271001 x271002)) else (none)) else (none)) else (none))) else (r1_ReadNum.j3 k x0 x6 x7 x8 x271000 x271001 x271002)
def r1_ReadNum.j3 : Nat → ByteArray → Int → ByteArray → ByteArray → Bool → ByteArray → ByteArray → Option (Bool × ByteArray × ByteArray × Bool)
 | 0, _, _, _, _, _, _, _ => none
 | k + 1, x0, x6, x7, x8, x271000, x271001, x271002 => if x7.size + x8.size ≤ 9223372036854775807 then (if (x7 ++ x8).toList = ([] : List UInt8) then (some (false, (⟨#[]⟩ : ByteArray), (⟨#[]⟩ : ByteArray), false)) else (if x6 < (x0.size : Int) then (if 0 ≤ x6 then (if (bt x0 x6) = 101 then (r1_ReadNum.j4 k x0 x6 x7 x8 (⟨#[48]⟩ : ByteArray) true x271000 x271001 x271002) else (r1_ReadNum.j4 k x0 x6 x7 x8 (⟨#[48]⟩ : ByteArray) ((bt x0 x6) == 69) x271000 x271001 x271002)) else (none)) else (r1_ReadNum.j4 k x0 x6 x7 x8 (⟨#[48]⟩ : ByteArray) false x271000 x271001 x271002))) else (none)
def r1_ReadNum.j4 : Nat → ByteArray → Int → ByteArray → ByteArray → ByteArray → Bool → Bool → ByteArray → ByteArray → Option (Bool × ByteArray × ByteArray × Bool)
 | 0, _, _, _, _, _, _, _, _, _ => none
 | k + 1, x0, x6, x7, x8, x10, x89, x271000, x271001, x271002 => if x89 = true then (if (wrap64 (x6 + 1)) < (x0.size : Int) then (if 0 ≤ (wrap64 (x6 + 1)) then (if (bt x0 (wrap64 (x6 + 1))) = 43 then (r1_ReadNum.j5 k x0 (wrap64 (x6 + 1)) x7 x8 false true x271000 x271001 x271002) else (r1_ReadNum.j5 k x0 (wrap64 (x6 + 1)) x7 x8 false ((bt x0 (wrap64 (x6 + 1))) == 45) x271000 x271001 x271002)) else (none)) else (r1_ReadNum.j5 k x0 (wrap64 (x6 + 1)) x7 x8 false false x271000 x271001 x271002)) else (r1_ReadNum.j7 k x0 x6 x7 x8 x10 x271000 x271001 x271002)
def r1_ReadNum.j7 : Nat → ByteArray → Int → ByteArray → ByteArray → ByteArray → Bool → ByteArray → ByteArray → Option (Bool × ByteArray × ByteArray × Bool)
 | 0, _, _, _, _, _, _, _, _ => none
 | k + 1, x0, x6, x7, x8, x10, x271000, x271001, x271002 => if x6 = (x0.size : Int) then (if x7.size + x8.size ≤ 9223372036854775807 then ((r1_stripped.f k (x7 ++ x8)).bind fun t275 => (r1_ReadNum.l0 k x10 t275 (wrap64 (-(x8.size : Int))) x271000 x271001 x271002)) else (none)) else (some (false, (⟨#[]⟩ : ByteArray), (⟨#[]⟩ : ByteArray), false))
def r1_ReadNum.j9 : Nat → ByteArray → ByteArray → Int → Bool → ByteArray → ByteArray → Option (Bool × ByteArray × ByteArray × Bool)
 | 0, _, _, _, _, _, _ => none
 | k + 1, x10, x13, x14, x271000, x271001, x271002 => if x13.toList = ([] : List UInt8) then (some (x271000, x271001, x271002, true)) else ((r1_Dec.f k x14).bind fun t276 => ((r1_Add.f k x10 t276).bind fun bt277 => (some (x271000, x13, bt277.1, true))))
def r1_ReadNum.l0 : Nat → ByteArray → ByteArray → Int → Bool → ByteArray → ByteArray → Option (Bool × ByteArray × ByteArray × Bool)
 | 0, _, _, _, _, _, _ => none
 | k + 1, x10, x13, x14, x271000, x271001, x271002 => if (x13.size : Int) > 0 then (if 0 ≤ (wrap64 ((x13.size : Int) - 1)) then (if (wrap64 ((x13.size : Int) - 1)) < (x13.size : Int) then (if (bt x13 (wrap64 ((x13.size : Int) - 1))) = 48 then (if (wrap64 ((x13.size : Int) - 1)) ≤ (x13.size : Int) then (r1_ReadNum.l0 k x10 (x13.extract 0 ((wrap64 ((x13.size : Int) - 1)) : Int).toNat) (wrap64 (x14 + 1)) x271000 x271001 x271002) else (none)) else (r1_ReadNum.j9 k x10 x13 x14 x271000 x271001 x271002)) else (none)) else (none)) else (r1_ReadNum.j9 k x10 x13 x14 x271000 x271001 x271002)
def r1_ReadNum.j5 : Nat → ByteArray → Int → ByteArray → ByteArray → Bool → Bool → Bool → ByteArray → ByteArray → Option (Bool × ByteArray × ByteArray × Bool)
 | 0, _, _, _, _, _, _, _, _, _ => none
 | k + 1, x0, x6, x7, x8, x11, x107, x271000, x271001, x271002 => if x107 = true then (if 0 ≤ x6 then (if x6 < (x0.size : Int) then (r1_ReadNum.j6 k x0 (wrap64 (x6 + 1)) x7 x8 ((bt x0 x6) == 45) x271000 x271001 x271002) else (none)) else (none)) else (r1_ReadNum.j6 k x0 x6 x7 x8 x11 x271000 x271001 x271002)
def r1_ReadNum.j6 : Nat → ByteArray → Int → ByteArray → ByteArray → Bool → Bool → ByteArray → ByteArray → Option (Bool × ByteArray × ByteArray × Bool)
 | 0, _, _, _, _, _, _, _, _ => none
 | k + 1, x0, x6, x7, x8, x11, x271000, x271001, x271002 => (r1_run.f k x0 x6).bind fun t273 => (if t273 = x6 then (some (false, (⟨#[]⟩ : ByteArray), (⟨#[]⟩ : ByteArray), false)) else (if 0 ≤ x6 then (if x6 ≤ t273 then (if t273 ≤ (x0.size : Int) then ((r1_stripped.f k (x0.extract (x6 : Int).toNat (t273 : Int).toNat)).bind fun t274 => (if x11 = true then (if t274.toList = ([48] : List UInt8) then (r1_ReadNum.j7 k x0 t273 x7 x8 t274 x271000 x271001 x271002) else (if 1 + t274.size ≤ 9223372036854775807 then (r1_ReadNum.j7 k x0 t273 x7 x8 ((⟨#[45]⟩ : ByteArray) ++ t274) x271000 x271001 x271002) else (none))) else (r1_ReadNum.j7 k x0 t273 x7 x8 t274 x271000 x271001 x271002))) else (none)) else (none)) else (none)))
end
def r1_ReadNum.f (k : Nat) (a0 : ByteArray) : Option (Bool × ByteArray × ByteArray × Bool) := if 0 < (a0.size : Int) then (if (bt a0 0) = 43 then (r1_ReadNum.j0 k a0 0 true false (⟨#[]⟩ : ByteArray) (⟨#[]⟩ : ByteArray)) else (r1_ReadNum.j0 k a0 0 ((bt a0 0) == 45) false (⟨#[]⟩ : ByteArray) (⟨#[]⟩ : ByteArray))) else (r1_ReadNum.j0 k a0 0 false false (⟨#[]⟩ : ByteArray) (⟨#[]⟩ : ByteArray))
set_option maxHeartbeats 8000000 in
set_option maxRecDepth 100000 in
theorem r1_ReadNum.calls (k : Nat) (a0 : ByteArray) (r1 : Bool) (r2 : ByteArray) (r3 : ByteArray) (r4 : Bool) (w : World) (h : r1_ReadNum.f k a0 = some (r1, r2, r3, r4)) :
  Calls Tryz.prog 9 #[.string a0] w fun e w' => e = .returned (.tuple #[.agg #[.bool r1, .string r2, .string r3], .bool r4]) ∧ Below w.heap.size w w' := by
 have hu23 := Tryz.underlying23
 have HB := Aside0.mk (Below.refl w.heap.size w)
 have H : (if 0 < (a0.size : Int) then (if (bt a0 0) = 43 then (r1_ReadNum.j0 k a0 0 true false (⟨#[]⟩ : ByteArray) (⟨#[]⟩ : ByteArray)) else (r1_ReadNum.j0 k a0 0 ((bt a0 0) == 45) false (⟨#[]⟩ : ByteArray) (⟨#[]⟩ : ByteArray))) else (r1_ReadNum.j0 k a0 0 false false (⟨#[]⟩ : ByteArray) (⟨#[]⟩ : ByteArray))) = some (r1, r2, r3, r4) := h
 clear h
 have HC2 := Aside0.mk H
 clear H
 go_enter Tryz.func9, Tryz.ntmps9
 go_upto_region 3 with (first | ((with_reducible refine gate_dst (N := 2) rfl ?_); (try (refine gate_guard (by rfl) ?_; dsimp only)); refine box_event ?hg (N := 2) ?hd (cs := #[.bool false, .string (⟨#[]⟩ : ByteArray), .string (⟨#[]⟩ : ByteArray)]) (t := 23) ?hr ?_; (case hd => rfl); (case hg => rfl); (case hr => first | (go_simp; done) | (go_simp; rfl)); intro gb269 hg w3 hbox hb; have n0_ := Aside0.mk (below_step (by repeat (first | (with_reducible first | exact HB.out | apply below_alloc | apply pw_below_drewN | apply below_drew1) | exact HB.out)) hb); have n1_ := Aside0.mk (hbox); have n2_ := Aside0.mk ((by rw [hg]; exact (below_size (by repeat (first | (with_reducible first | exact HB.out | apply below_alloc | apply pw_below_drewN | apply below_drew1) | exact HB.out))) : w.heap.size ≤ gb269)); have n3_ := Aside0.mk ((by rw [hg]; exact (below_size (by repeat (first | (with_reducible first | exact HB.out | apply below_alloc | apply pw_below_drewN | apply below_drew1) | exact HB.out))) : w.heap.size ≤ gb269)); clear HB; have HB := n0_; have BK269 := n1_; have GW269 := n2_; have GE269 := n3_; clear n0_ n1_ n2_ n3_; clear hb hbox hg) | ((with_reducible refine gate_dst (N := 5) rfl ?_); (try (refine gate_guard (by rfl) ?_; dsimp only)); refine box_event ?hg (N := 5) ?hd (cs := #[.bool false, .string (⟨#[]⟩ : ByteArray), .string (⟨#[]⟩ : ByteArray)]) (t := 23) ?hr ?_; (case hd => rfl); (case hg => rfl); (case hr => first | (go_simp; done) | (go_simp; rfl)); intro gb270 hg w4 hbox hb; have n0_ := Aside0.mk (blk_below (g := gb269) (o := .cells #[.bool false, .string (⟨#[]⟩ : ByteArray), .string (⟨#[]⟩ : ByteArray)] 23 (0, 0)) (by (with_reducible repeat (first | refine blk_drewN ?_ _ | refine blk_drew ?_ | refine blk_alloc ?_ _)); exact BK269.out) hb); have n1_ := Aside0.mk (below_step (by repeat (first | (with_reducible first | exact HB.out | apply below_alloc | apply pw_below_drewN | apply below_drew1 | refine below_set ?_ GE269.out) | exact HB.out)) hb); have n2_ := Aside0.mk (hbox); have n3_ := Aside0.mk ((by rw [hg]; exact (below_size (by repeat (first | (with_reducible first | exact HB.out | apply below_alloc | apply pw_below_drewN | apply below_drew1 | refine below_set ?_ GE269.out) | exact HB.out))) : w.heap.size ≤ gb270)); have n4_ := Aside0.mk ((by rw [hg]; exact (below_size (by repeat (first | (with_reducible first | exact HB.out | apply below_alloc | apply pw_below_drewN | apply below_drew1 | refine below_set ?_ GE269.out) | exact HB.out))) : w.heap.size ≤ gb270)); have n5_ := Aside0.mk ((by rw [hg]; exact Nat.ne_of_lt (blk_lt (g := gb269) (o := .cells #[.bool false, .string (⟨#[]⟩ : ByteArray), .string (⟨#[]⟩ : ByteArray)] 23 (0, 0)) (by (with_reducible repeat (first | refine blk_drewN ?_ _ | refine blk_drew ?_ | refine blk_alloc ?_ _)); exact BK269.out)) : gb269 ≠ gb270)); have n6_ := Aside0.mk ((by rw [hg]; exact Nat.ne_of_gt (blk_lt (g := gb269) (o := .cells #[.bool false, .string (⟨#[]⟩ : ByteArray), .string (⟨#[]⟩ : ByteArray)] 23 (0, 0)) (by (with_reducible repeat (first | refine blk_drewN ?_ _ | refine blk_drew ?_ | refine blk_alloc ?_ _)); exact BK269.out)) : gb270 ≠ gb269)); clear BK269; clear HB; have BK269 := n0_; have HB := n1_; have BK270 := n2_; have GW270 := n3_; have GE270 := n4_; have NB269_270 := n5_; have NB270_269 := n6_; clear n0_ n1_ n2_ n3_ n4_ n5_ n6_; clear hb hbox hg; have hnb5 := NB270_269.out; have hnc5 := NB269_270.out; have hcz6_0 : w4.cell? ⟨gb270, 0, none⟩ = some (.bool false) := (blk_cell BK270.out 0).trans rfl; have hcz6_1 : w4.cell? ⟨gb270, 1, none⟩ = some (.string (⟨#[]⟩ : ByteArray)) := (blk_cell BK270.out 1).trans rfl; have hcz6_2 : w4.cell? ⟨gb270, 2, none⟩ = some (.string (⟨#[]⟩ : ByteArray)) := (blk_cell BK270.out 2).trans rfl; have hfz6_0 := blk_frozen BK270.out 0; have hfz6_1 := blk_frozen BK270.out 1; have hfz6_2 := blk_frozen BK270.out 2))
 (try simp only [Act.put, List.setIfInBounds_toArray, List.set_cons_zero, List.set_cons_succ])
 go_cut [31] (fun v31 wc => ∃ (kq : Nat) (x31_1 : Bool), v31 = .bool x31_1 ∧ Aside0 (r1_ReadNum.j0 kq a0 0 x31_1 false (⟨#[]⟩ : ByteArray) (⟨#[]⟩ : ByteArray) = some (r1, r2, r3, r4)) ∧ Aside0 (kq ≤ k) ∧ Aside0 (wc.heap[gb269]? = some (.cells #[.bool false, .string (⟨#[]⟩ : ByteArray), .string (⟨#[]⟩ : ByteArray)] 23 (0, 0))) ∧ Aside0 (wc.heap[gb270]? = some (.cells #[.bool false, .string (⟨#[]⟩ : ByteArray), .string (⟨#[]⟩ : ByteArray)] 23 (0, 0))) ∧ Aside0 (Below w.heap.size w wc))
 case first => as_aux_lemma =>
  have H := HC2.out
  clear HC2
  by_cases c7 : 0 < (a0.size : Int)
  ·rw [if_pos c7] at H
   have c7b0 : decide (0 < (a0.size : Int)) = true := decide_eq_true c7
   have c7b1 : decide (0 < a0.size) = true := decide_eq_true (by omega)
   clear c7
   (first | rw [c7b0] | (simp only [i64_w, i32_w]; rw [c7b0]) | skip)
   by_cases c9 : (bt a0 0) = 43
   ·rw [if_pos c9] at H
    have c9b0 : ((bt a0 0) == 43) = true := beq_iff_eq.mpr c9
    have c9b1 : ((bt a0 0) != 43) = false := bne_eq_false_iff_eq.mpr c9
    clear c9
    have H' := Aside0.mk H
    clear H
    have p8 : 0 ≤ (0 : Int) := (by omega)
    have q8 : 0 < a0.size := (by have : (0 : Int) < (a0.size : Int) := of_decide_eq_true (by first | (with_reducible assumption) | assumption); omega)
    have hx8 : ∀ h : 0 < a0.size, ((a0[0]'h).toNat : Int) = bt a0 0 := bt_at a0 0
    clear p8
    have qi8 : (0 < (a0.size : Int)) = True := eq_true (of_decide_eq_true (by first | (with_reducible assumption) | assumption))
    replace q8 := eq_true q8
    go_wp2
    go_meet
    case rel => exact ⟨_, (true), (by first | rfl | (simp; done) | (simp [bne_nil_]; done) | (simp [*]; done) | (simp [wrap64]; done) | (refine congrArg (Value.int .i64) ?_; unfold wrap64; omega)), H', ⟨by first | omega | exact Nat.le_refl _⟩, ⟨by (with_reducible repeat (first | refine blk_drewN ?_ _ | refine blk_drew ?_ | refine blk_alloc ?_ _)); refine blk_far ?_ NB269_270.out _; (with_reducible repeat (first | refine blk_drewN ?_ _ | refine blk_drew ?_ | refine blk_alloc ?_ _)); refine blk_far ?_ NB269_270.out _; (with_reducible repeat (first | refine blk_drewN ?_ _ | refine blk_drew ?_ | refine blk_alloc ?_ _)); refine blk_far ?_ NB269_270.out _; (with_reducible repeat (first | refine blk_drewN ?_ _ | refine blk_drew ?_ | refine blk_alloc ?_ _)); exact BK269.out⟩, ⟨by (with_reducible repeat (first | refine blk_drewN ?_ _ | refine blk_drew ?_ | refine blk_alloc ?_ _)); refine blk_put (cs := #[.bool false, .string (⟨#[]⟩ : ByteArray), .string (⟨#[]⟩ : ByteArray)]) ?_ 2 _ rfl; (with_reducible repeat (first | refine blk_drewN ?_ _ | refine blk_drew ?_ | refine blk_alloc ?_ _)); refine blk_put (cs := #[.bool false, .string (⟨#[]⟩ : ByteArray), .string (⟨#[]⟩ : ByteArray)]) ?_ 1 _ rfl; (with_reducible repeat (first | refine blk_drewN ?_ _ | refine blk_drew ?_ | refine blk_alloc ?_ _)); refine blk_put (cs := #[.bool false, .string (⟨#[]⟩ : ByteArray), .string (⟨#[]⟩ : ByteArray)]) ?_ 0 _ rfl; (with_reducible repeat (first | refine blk_drewN ?_ _ | refine blk_drew ?_ | refine blk_alloc ?_ _)); exact BK270.out⟩, ⟨by repeat (first | (with_reducible first | exact HB.out | apply below_alloc | apply pw_below_drewN | apply below_drew1 | refine below_set ?_ GE269.out | refine below_set ?_ GE270.out) | exact HB.out)⟩⟩
   ·rw [if_neg c9] at H
    have c9b0 : ((bt a0 0) == 43) = false := beq_eq_false_iff_ne.mpr c9
    have c9b1 : ((bt a0 0) != 43) = true := bne_iff_ne.mpr c9
    have H' := Aside0.mk H
    clear H
    have p8 : 0 ≤ (0 : Int) := (by omega)
    have q8 : 0 < a0.size := (by have : (0 : Int) < (a0.size : Int) := of_decide_eq_true (by first | (with_reducible assumption) | assumption); omega)
    have hx8 : ∀ h : 0 < a0.size, ((a0[0]'h).toNat : Int) = bt a0 0 := bt_at a0 0
    clear p8
    have qi8 : (0 < (a0.size : Int)) = True := eq_true (of_decide_eq_true (by first | (with_reducible assumption) | assumption))
    replace q8 := eq_true q8
    have p10 : 0 ≤ (0 : Int) := (by omega)
    have q10 : 0 < a0.size := (by have : (0 : Int) < (a0.size : Int) := of_decide_eq_true (by first | (with_reducible assumption) | assumption); omega)
    have hx10 : ∀ h : 0 < a0.size, ((a0[0]'h).toNat : Int) = bt a0 0 := bt_at a0 0
    clear p10
    have qi10 : (0 < (a0.size : Int)) = True := eq_true (of_decide_eq_true (by first | (with_reducible assumption) | assumption))
    replace q10 := eq_true q10
    go_wp2
    go_meet
    case rel => exact ⟨_, (((bt a0 0) == 45)), (by first | rfl | (simp; done) | (simp [bne_nil_]; done) | (simp [*]; done) | (simp [wrap64]; done) | (refine congrArg (Value.int .i64) ?_; unfold wrap64; omega)), H', ⟨by first | omega | exact Nat.le_refl _⟩, ⟨by (with_reducible repeat (first | refine blk_drewN ?_ _ | refine blk_drew ?_ | refine blk_alloc ?_ _)); refine blk_far ?_ NB269_270.out _; (with_reducible repeat (first | refine blk_drewN ?_ _ | refine blk_drew ?_ | refine blk_alloc ?_ _)); refine blk_far ?_ NB269_270.out _; (with_reducible repeat (first | refine blk_drewN ?_ _ | refine blk_drew ?_ | refine blk_alloc ?_ _)); refine blk_far ?_ NB269_270.out _; (with_reducible repeat (first | refine blk_drewN ?_ _ | refine blk_drew ?_ | refine blk_alloc ?_ _)); exact BK269.out⟩, ⟨by (with_reducible repeat (first | refine blk_drewN ?_ _ | refine blk_drew ?_ | refine blk_alloc ?_ _)); refine blk_put (cs := #[.bool false, .string (⟨#[]⟩ : ByteArray), .string (⟨#[]⟩ : ByteArray)]) ?_ 2 _ rfl; (with_reducible repeat (first | refine blk_drewN ?_ _ | refine blk_drew ?_ | refine blk_alloc ?_ _)); refine blk_put (cs := #[.bool false, .string (⟨#[]⟩ : ByteArray), .string (⟨#[]⟩ : ByteArray)]) ?_ 1 _ rfl; (with_reducible repeat (first | refine blk_drewN ?_ _ | refine blk_drew ?_ | refine blk_alloc ?_ _)); refine blk_put (cs := #[.bool false, .string (⟨#[]⟩ : ByteArray), .string (⟨#[]⟩ : ByteArray)]) ?_ 0 _ rfl; (with_reducible repeat (first | refine blk_drewN ?_ _ | refine blk_drew ?_ | refine blk_alloc ?_ _)); exact BK270.out⟩, ⟨by repeat (first | (with_reducible first | exact HB.out | apply below_alloc | apply pw_below_drewN | apply below_drew1 | refine below_set ?_ GE269.out | refine below_set ?_ GE270.out) | exact HB.out)⟩⟩
  ·rw [if_neg c7] at H
   have c7b0 : decide (0 < (a0.size : Int)) = false := decide_eq_false c7
   have c7b1 : decide (0 < a0.size) = false := decide_eq_false (by omega)
   clear c7
   (first | rw [c7b0] | (simp only [i64_w, i32_w]; rw [c7b0]) | skip)
   have H' := Aside0.mk H
   clear H
   go_wp2
   go_meet
   case rel => exact ⟨_, (false), (by first | rfl | (simp; done) | (simp [bne_nil_]; done) | (simp [*]; done) | (simp [wrap64]; done) | (refine congrArg (Value.int .i64) ?_; unfold wrap64; omega)), H', ⟨by first | omega | exact Nat.le_refl _⟩, ⟨by (with_reducible repeat (first | refine blk_drewN ?_ _ | refine blk_drew ?_ | refine blk_alloc ?_ _)); refine blk_far ?_ NB269_270.out _; (with_reducible repeat (first | refine blk_drewN ?_ _ | refine blk_drew ?_ | refine blk_alloc ?_ _)); refine blk_far ?_ NB269_270.out _; (with_reducible repeat (first | refine blk_drewN ?_ _ | refine blk_drew ?_ | refine blk_alloc ?_ _)); refine blk_far ?_ NB269_270.out _; (with_reducible repeat (first | refine blk_drewN ?_ _ | refine blk_drew ?_ | refine blk_alloc ?_ _)); exact BK269.out⟩, ⟨by (with_reducible repeat (first | refine blk_drewN ?_ _ | refine blk_drew ?_ | refine blk_alloc ?_ _)); refine blk_put (cs := #[.bool false, .string (⟨#[]⟩ : ByteArray), .string (⟨#[]⟩ : ByteArray)]) ?_ 2 _ rfl; (with_reducible repeat (first | refine blk_drewN ?_ _ | refine blk_drew ?_ | refine blk_alloc ?_ _)); refine blk_put (cs := #[.bool false, .string (⟨#[]⟩ : ByteArray), .string (⟨#[]⟩ : ByteArray)]) ?_ 1 _ rfl; (with_reducible repeat (first | refine blk_drewN ?_ _ | refine blk_drew ?_ | refine blk_alloc ?_ _)); refine blk_put (cs := #[.bool false, .string (⟨#[]⟩ : ByteArray), .string (⟨#[]⟩ : ByteArray)]) ?_ 0 _ rfl; (with_reducible repeat (first | refine blk_drewN ?_ _ | refine blk_drew ?_ | refine blk_alloc ?_ _)); exact BK270.out⟩, ⟨by repeat (first | (with_reducible first | exact HB.out | apply below_alloc | apply pw_below_drewN | apply below_drew1 | refine below_set ?_ GE269.out | refine below_set ?_ GE270.out) | exact HB.out)⟩⟩
 case rest => as_aux_lemma =>
  clear HC2
  try clear p1
  try clear q1
  try clear hx1
  try clear qi1
  try clear p2
  try clear c5
  try clear p6
  try clear c7
  try clear c7b0
  try clear c7b1
  try clear p8
  try clear q8
  try clear hx8
  try clear qi8
  try clear c9
  try clear c9b0
  try clear c9b1
  try clear p10
  try clear q10
  try clear hx10
  try clear qi10
  try clear hcz6_0
  try clear hcz6_1
  try clear hcz6_2
  try clear hfz6_0
  try clear hfz6_1
  try clear hfz6_2
  try clear p10
  try clear p8
  try clear q10
  try clear q8
  obtain ⟨kq, x31_1, rfl, HA, HJ1, BK269, BK270, HB⟩ := hcut
  cases kq with
  | zero => exact absurd HA.out (by simp [r1_ReadNum.j0])
  | succ kj1 =>
   have H := HA.out
   clear HA
   simp only [r1_ReadNum.j0] at H
   have HC11 := Aside0.mk H
   clear H
   go_upto_if 31 with (fail)
   go_cut [4] (fun v4 wc => ∃ (kq : Nat) (x4_10 : Int) (x271000_10 : Bool), v4 = .int .i64 x4_10 ∧ Aside0 (r1_ReadNum.j1 kq a0 x4_10 x271000_10 (⟨#[]⟩ : ByteArray) (⟨#[]⟩ : ByteArray) = some (r1, r2, r3, r4)) ∧ Aside0 (kq ≤ kj1) ∧ Aside0 (wc.heap[gb269]? = some (.cells #[.bool false, .string (⟨#[]⟩ : ByteArray), .string (⟨#[]⟩ : ByteArray)] 23 (0, 0))) ∧ Aside0 (wc.heap[gb270]? = some (.cells #[.bool x271000_10, .string (⟨#[]⟩ : ByteArray), .string (⟨#[]⟩ : ByteArray)] 23 (0, 0))) ∧ Aside0 (Below w.heap.size w wc))
   case first => as_aux_lemma =>
    have H := HC11.out
    clear HC11
    by_cases c12 : x31_1 = true
    ·subst c12
     have H1 : (if 0 ≤ 0 then (if 0 < (a0.size : Int) then (r1_ReadNum.j1 kj1 a0 (wrap64 (0 + 1)) ((bt a0 0) == 45) (⟨#[]⟩ : ByteArray) (⟨#[]⟩ : ByteArray)) else (none)) else (none)) = some (r1, r2, r3, r4) := by rw [if_pos rfl] at H; exact H
     clear H
     have H := H1
     clear H1
     by_cases c13 : 0 ≤ 0
     ·rw [if_pos c13] at H
      have c13b0 : decide (0 ≤ 0) = true := decide_eq_true c13
      clear c13
      (first | rw [c13b0] | (simp only [i64_w, i32_w]; rw [c13b0]) | skip)
      by_cases c14 : 0 < (a0.size : Int)
      ·rw [if_pos c14] at H
       have c14b0 : decide (0 < (a0.size : Int)) = true := decide_eq_true c14
       have c14b1 : decide (0 < a0.size) = true := decide_eq_true (by omega)
       clear c14
       have H' := Aside0.mk H
       clear H
       have p15 : 0 ≤ (0 : Int) := (by omega)
       have q15 : 0 < a0.size := (by have : (0 : Int) < (a0.size : Int) := of_decide_eq_true (by first | (with_reducible assumption) | assumption); omega)
       have hx15 : ∀ h : 0 < a0.size, ((a0[0]'h).toNat : Int) = bt a0 0 := bt_at a0 0
       clear p15
       have qi15 : (0 < (a0.size : Int)) = True := eq_true (of_decide_eq_true (by first | (with_reducible assumption) | assumption))
       replace q15 := eq_true q15
       have hnb16 := NB270_269.out
       have hnc16 := NB269_270.out
       have hcz17_0 : wc.cell? ⟨gb270, 0, none⟩ = some (.bool false) := (blk_cell BK270.out 0).trans rfl
       have hcz17_1 : wc.cell? ⟨gb270, 1, none⟩ = some (.string (⟨#[]⟩ : ByteArray)) := (blk_cell BK270.out 1).trans rfl
       have hcz17_2 : wc.cell? ⟨gb270, 2, none⟩ = some (.string (⟨#[]⟩ : ByteArray)) := (blk_cell BK270.out 2).trans rfl
       have hfz17_0 := blk_frozen BK270.out 0
       have hfz17_1 := blk_frozen BK270.out 1
       have hfz17_2 := blk_frozen BK270.out 2
       go_wp2
       go_meet
       case rel => exact ⟨_, (wrap64 (0 + 1)), (((bt a0 0) == 45)), (by first | rfl | (simp; done) | (simp [bne_nil_]; done) | (simp [*]; done) | (simp [wrap64]; done) | (refine congrArg (Value.int .i64) ?_; unfold wrap64; omega)), H', ⟨by have := HJ1.out; first | omega | exact Nat.le_refl _⟩, ⟨by (with_reducible repeat (first | refine blk_drewN ?_ _ | refine blk_drew ?_ | refine blk_alloc ?_ _)); refine blk_far ?_ NB269_270.out _; (with_reducible repeat (first | refine blk_drewN ?_ _ | refine blk_drew ?_ | refine blk_alloc ?_ _)); exact BK269.out⟩, ⟨by (with_reducible repeat (first | refine blk_drewN ?_ _ | refine blk_drew ?_ | refine blk_alloc ?_ _)); refine blk_put (cs := #[.bool false, .string (⟨#[]⟩ : ByteArray), .string (⟨#[]⟩ : ByteArray)]) ?_ 0 _ rfl; (with_reducible repeat (first | refine blk_drewN ?_ _ | refine blk_drew ?_ | refine blk_alloc ?_ _)); exact BK270.out⟩, ⟨by repeat (first | (with_reducible first | exact HB.out | apply below_alloc | apply pw_below_drewN | apply below_drew1 | refine below_set ?_ GE269.out | refine below_set ?_ GE270.out) | exact HB.out)⟩⟩
      ·rw [if_neg c14] at H
       exact absurd H (by simp)
     ·rw [if_neg c13] at H
      exact absurd H (by simp)
    ·replace c12 := Bool.eq_false_iff.mpr c12
     subst c12
     have H1 : (r1_ReadNum.j1 kj1 a0 0 false (⟨#[]⟩ : ByteArray) (⟨#[]⟩ : ByteArray)) = some (r1, r2, r3, r4) := by rw [if_neg (show ¬ (false = true) by decide)] at H; exact H
     clear H
     have H := H1
     clear H1
     have H' := Aside0.mk H
     clear H
     go_wp2
     go_meet
     case rel => exact ⟨_, (0), (false), (by first | rfl | (simp; done) | (simp [bne_nil_]; done) | (simp [*]; done) | (simp [wrap64]; done) | (refine congrArg (Value.int .i64) ?_; unfold wrap64; omega)), H', ⟨by have := HJ1.out; first | omega | exact Nat.le_refl _⟩, ⟨by (with_reducible repeat (first | refine blk_drewN ?_ _ | refine blk_drew ?_ | refine blk_alloc ?_ _)); exact BK269.out⟩, ⟨by (with_reducible repeat (first | refine blk_drewN ?_ _ | refine blk_drew ?_ | refine blk_alloc ?_ _)); exact BK270.out⟩, ⟨by repeat (first | (with_reducible first | exact HB.out | apply below_alloc | apply pw_below_drewN | apply below_drew1 | refine below_set ?_ GE269.out | refine below_set ?_ GE270.out) | exact HB.out)⟩⟩
   case rest => as_aux_lemma =>
    clear HC11
    try clear c1
    try clear p1
    try clear q1
    try clear hx1
    try clear qi1
    try clear p2
    try clear c5
    try clear p6
    try clear c7
    try clear c7b0
    try clear c7b1
    try clear p8
    try clear q8
    try clear hx8
    try clear qi8
    try clear c9
    try clear c9b0
    try clear c9b1
    try clear p10
    try clear q10
    try clear hx10
    try clear qi10
    try clear c12
    try clear c13
    try clear c13b0
    try clear c14
    try clear c14b0
    try clear c14b1
    try clear p15
    try clear q15
    try clear hx15
    try clear qi15
    try clear c16
    try clear hcz17_0
    try clear hcz17_1
    try clear hcz17_2
    try clear hcz6_0
    try clear hcz6_1
    try clear hcz6_2
    try clear hfz17_0
    try clear hfz17_1
    try clear hfz17_2
    try clear hfz6_0
    try clear hfz6_1
    try clear hfz6_2
    try clear p1
    try clear p10
    try clear p15
    try clear p2
    try clear p6
    try clear p8
    try clear q1
    try clear q10
    try clear q15
    try clear q8
    obtain ⟨kq, x4_10, x271000_10, rfl, HA, HJ10, BK269, BK270, HB⟩ := hcut
    cases kq with
    | zero => exact absurd HA.out (by simp [r1_ReadNum.j1])
    | succ kj10 =>
     have H := HA.out
     clear HA
     simp only [r1_ReadNum.j1] at H
     replace H := Option.bind_eq_some_iff.mp H
     obtain ⟨t271, A180, H⟩ := H
     replace H : (if 0 ≤ x4_10 then (if x4_10 ≤ t271 then (if t271 ≤ (a0.size : Int) then (if t271 < (a0.size : Int) then (if 0 ≤ t271 then (r1_ReadNum.j2 kj10 a0 t271 (a0.extract (x4_10 : Int).toNat (t271 : Int).toNat) (⟨#[]⟩ : ByteArray) ((bt a0 t271) == 46) x271000_10 (⟨#[]⟩ : ByteArray) (⟨#[]⟩ : ByteArray)) else (none)) else (r1_ReadNum.j2 kj10 a0 t271 (a0.extract (x4_10 : Int).toNat (t271 : Int).toNat) (⟨#[]⟩ : ByteArray) false x271000_10 (⟨#[]⟩ : ByteArray) (⟨#[]⟩ : ByteArray))) else (none)) else (none)) else (none)) = some (r1, r2, r3, r4) := H
     have A18 := Aside0.mk A180
     clear A180
     by_cases c19 : 0 ≤ x4_10
     ·rw [if_pos c19] at H
      have c19b0 := eq_true c19
      have c19b1 : decide (0 ≤ x4_10) = true := decide_eq_true c19
      clear c19
      by_cases c20 : x4_10 ≤ t271
      ·rw [if_pos c20] at H
       have c20b0 := eq_true c20
       have c20b1 : decide (x4_10 ≤ t271) = true := decide_eq_true c20
       clear c20
       by_cases c21 : t271 ≤ (a0.size : Int)
       ·rw [if_pos c21] at H
        have c21b0 := eq_true c21
        have c21b1 : decide (t271 ≤ (a0.size : Int)) = true := decide_eq_true c21
        clear c21
        have HC22 := Aside0.mk H
        clear H
        go_upto_region 9 with (first | ((with_reducible refine gate_callee (f := 26) rfl ?_); refine goesL_ (some 41) rfl rfl Tryz.func26 (by kernel_rfl) rfl #[.string a0, .int .i64 x4_10] rfl (by (try simp only [List.map_toArray, List.map_cons, List.map_nil]); first | done | rfl | (simp only [List.length_drop, List.length_take]; rfl)) ?_; (with_reducible refine (r1_run.calls kj10 a0 x4_10 t271 _ A18.out).mono ?_); rintro e w' ⟨rfl, ⟨nd, rfl⟩⟩; refine ⟨_, rfl, ?_⟩))
        (try simp only [Act.put, List.setIfInBounds_toArray, List.set_cons_zero, List.set_cons_succ])
        go_cut [55] (fun v55 wc => ∃ (kq : Nat) (x55_21 : Bool), v55 = .bool x55_21 ∧ Aside0 (r1_ReadNum.j2 kq a0 t271 (a0.extract (x4_10 : Int).toNat (t271 : Int).toNat) (⟨#[]⟩ : ByteArray) x55_21 x271000_10 (⟨#[]⟩ : ByteArray) (⟨#[]⟩ : ByteArray) = some (r1, r2, r3, r4)) ∧ Aside0 (kq ≤ kj10) ∧ Aside0 (wc.heap[gb269]? = some (.cells #[.bool false, .string (⟨#[]⟩ : ByteArray), .string (⟨#[]⟩ : ByteArray)] 23 (0, 0))) ∧ Aside0 (wc.heap[gb270]? = some (.cells #[.bool x271000_10, .string (⟨#[]⟩ : ByteArray), .string (⟨#[]⟩ : ByteArray)] 23 (0, 0))) ∧ Aside0 (Below w.heap.size w wc))
        case first => as_aux_lemma =>
         have H := HC22.out
         clear HC22
         by_cases c23 : t271 < (a0.size : Int)
         ·rw [if_pos c23] at H
          have c23b0 : decide (t271 < (a0.size : Int)) = true := decide_eq_true c23
          clear c23
          (first | rw [c23b0] | (simp only [i64_w, i32_w]; rw [c23b0]) | skip)
          by_cases c24 : 0 ≤ t271
          ·rw [if_pos c24] at H
           have c24b0 : decide (0 ≤ t271) = true := decide_eq_true c24
           clear c24
           have H' := Aside0.mk H
           clear H
           have p25 : 0 ≤ (t271 : Int) := of_decide_eq_true (by first | (with_reducible assumption) | assumption)
           have q25 : t271 < (a0.size : Int) := of_decide_eq_true (by first | (with_reducible assumption) | assumption)
           have hx25 := bt_at a0 t271
           replace p25 := eq_true p25
           replace q25 := eq_true q25
           go_wp2
           go_meet
           case rel => exact ⟨_, (((bt a0 t271) == 46)), (by first | rfl | (simp; done) | (simp [bne_nil_]; done) | (simp [*]; done) | (simp [wrap64]; done) | (refine congrArg (Value.int .i64) ?_; unfold wrap64; omega)), H', ⟨by have := HJ1.out; have := HJ10.out; first | omega | exact Nat.le_refl _⟩, ⟨by (with_reducible repeat (first | refine blk_drewN ?_ _ | refine blk_drew ?_ | refine blk_alloc ?_ _)); exact BK269.out⟩, ⟨by (with_reducible repeat (first | refine blk_drewN ?_ _ | refine blk_drew ?_ | refine blk_alloc ?_ _)); exact BK270.out⟩, ⟨by repeat (first | (with_reducible first | exact HB.out | apply below_alloc | apply pw_below_drewN | apply below_drew1 | refine below_set ?_ GE269.out | refine below_set ?_ GE270.out) | exact HB.out)⟩⟩
          ·rw [if_neg c24] at H
           exact absurd H (by simp)
         ·rw [if_neg c23] at H
          have c23b0 : decide (t271 < (a0.size : Int)) = false := decide_eq_false c23
          clear c23
          (first | rw [c23b0] | (simp only [i64_w, i32_w]; rw [c23b0]) | skip)
          have H' := Aside0.mk H
          clear H
          go_wp2
          go_meet
          case rel => exact ⟨_, (false), (by first | rfl | (simp; done) | (simp [bne_nil_]; done) | (simp [*]; done) | (simp [wrap64]; done) | (refine congrArg (Value.int .i64) ?_; unfold wrap64; omega)), H', ⟨by have := HJ1.out; have := HJ10.out; first | omega | exact Nat.le_refl _⟩, ⟨by (with_reducible repeat (first | refine blk_drewN ?_ _ | refine blk_drew ?_ | refine blk_alloc ?_ _)); exact BK269.out⟩, ⟨by (with_reducible repeat (first | refine blk_drewN ?_ _ | refine blk_drew ?_ | refine blk_alloc ?_ _)); exact BK270.out⟩, ⟨by repeat (first | (with_reducible first | exact HB.out | apply below_alloc | apply pw_below_drewN | apply below_drew1 | refine below_set ?_ GE269.out | refine below_set ?_ GE270.out) | exact HB.out)⟩⟩
        case rest => as_aux_lemma =>
         clear HC22
         try clear c1
         try clear p1
         try clear q1
         try clear hx1
         try clear qi1
         try clear c2
         try clear p2
         try clear q2
         try clear hx2
         try clear c5
         try clear p6
         try clear c7
         try clear c7b0
         try clear c7b1
         try clear p8
         try clear q8
         try clear hx8
         try clear qi8
         try clear c9
         try clear c9b0
         try clear c9b1
         try clear p10
         try clear q10
         try clear hx10
         try clear qi10
         try clear c12
         try clear c13
         try clear c13b0
         try clear c14
         try clear c14b0
         try clear c14b1
         try clear p15
         try clear q15
         try clear hx15
         try clear qi15
         try clear c16
         try clear c19
         try clear c19b0
         try clear c19b1
         try clear c20
         try clear c20b0
         try clear c20b1
         try clear c21
         try clear c21b0
         try clear c21b1
         try clear c23
         try clear c23b0
         try clear c24
         try clear c24b0
         try clear p25
         try clear q25
         try clear hx25
         try clear hcz17_0
         try clear hcz17_1
         try clear hcz17_2
         try clear hcz6_0
         try clear hcz6_1
         try clear hcz6_2
         try clear hfz17_0
         try clear hfz17_1
         try clear hfz17_2
         try clear hfz6_0
         try clear hfz6_1
         try clear hfz6_2
         try clear p1
         try clear p10
         try clear p15
         try clear p2
         try clear p25
         try clear p6
         try clear p8
         try clear q1
         try clear q10
         try clear q15
         try clear q25
         try clear q8
         obtain ⟨kq, x55_21, rfl, HA, HJ21, BK269, BK270, HB⟩ := hcut
         cases kq with
         | zero => exact absurd HA.out (by simp [r1_ReadNum.j2])
         | succ kj21 =>
          have H := HA.out
          clear HA
          simp only [r1_ReadNum.j2] at H
          have HC26 := Aside0.mk H
          clear H
          go_upto_if 55 with (fail)
          go_cut [6, 8] (fun v6 v8 wc => ∃ (kq : Nat) (x6_25 : Int) (x8_25 : ByteArray) (x270000_25 : Bool) (x270001_25 : ByteArray) (x270002_25 : ByteArray), v6 = .int .i64 x6_25 ∧ v8 = .string x8_25 ∧ Aside0 (r1_ReadNum.j3 kq a0 x6_25 (a0.extract (x4_10 : Int).toNat (t271 : Int).toNat) x8_25 x271000_10 (⟨#[]⟩ : ByteArray) (⟨#[]⟩ : ByteArray) = some (r1, r2, r3, r4)) ∧ Aside0 (kq ≤ kj21) ∧ Aside0 (wc.heap[gb269]? = some (.cells #[.bool x270000_25, .string x270001_25, .string x270002_25] 23 (0, 0))) ∧ Aside0 (wc.heap[gb270]? = some (.cells #[.bool x271000_10, .string (⟨#[]⟩ : ByteArray), .string (⟨#[]⟩ : ByteArray)] 23 (0, 0))) ∧ Aside0 (Below w.heap.size w wc))
          case first => as_aux_lemma =>
           have H := HC26.out
           clear HC26
           by_cases c27 : x55_21 = true
           ·subst c27
            have H1 : ((r1_run.f kj21 a0 (wrap64 (t271 + 1))).bind fun t272 => (if 0 ≤ (wrap64 (t271 + 1)) then (if (wrap64 (t271 + 1)) ≤ t272 then (if t272 ≤ (a0.size : Int) then (if (a0.extract ((wrap64 (t271 + 1)) : Int).toNat (t272 : Int).toNat).toList = ([] : List UInt8) then (some (false, (⟨#[]⟩ : ByteArray), (⟨#[]⟩ : ByteArray), false)) else (r1_ReadNum.j3 kj21 a0 t272 (a0.extract (x4_10 : Int).toNat (t271 : Int).toNat) (a0.extract ((wrap64 (t271 + 1)) : Int).toNat (t272 : Int).toNat) x271000_10 (⟨#[]⟩ : ByteArray) (⟨#[]⟩ : ByteArray))) else (none)) else (none)) else (none))) = some (r1, r2, r3, r4) := by rw [if_pos rfl] at H; exact H
            clear H
            have H := H1
            clear H1
            replace H := Option.bind_eq_some_iff.mp H
            obtain ⟨t272, A280, H⟩ := H
            replace H : (if 0 ≤ (wrap64 (t271 + 1)) then (if (wrap64 (t271 + 1)) ≤ t272 then (if t272 ≤ (a0.size : Int) then (if (a0.extract ((wrap64 (t271 + 1)) : Int).toNat (t272 : Int).toNat).toList = ([] : List UInt8) then (some (false, (⟨#[]⟩ : ByteArray), (⟨#[]⟩ : ByteArray), false)) else (r1_ReadNum.j3 kj21 a0 t272 (a0.extract (x4_10 : Int).toNat (t271 : Int).toNat) (a0.extract ((wrap64 (t271 + 1)) : Int).toNat (t272 : Int).toNat) x271000_10 (⟨#[]⟩ : ByteArray) (⟨#[]⟩ : ByteArray))) else (none)) else (none)) else (none)) = some (r1, r2, r3, r4) := H
            have A28 := Aside0.mk A280
            clear A280
            obtain ⟨ji29, hji29⟩ : ∃ j_ : Int, (wrap64 (t271 + 1)) = j_ := ⟨_, rfl⟩
            replace H : (if 0 ≤ (ji29) then (if (ji29) ≤ t272 then (if t272 ≤ (a0.size : Int) then (if (a0.extract ((ji29) : Int).toNat (t272 : Int).toNat).toList = ([] : List UInt8) then (some (false, (⟨#[]⟩ : ByteArray), (⟨#[]⟩ : ByteArray), false)) else (r1_ReadNum.j3 kj21 a0 t272 (a0.extract (x4_10 : Int).toNat (t271 : Int).toNat) (a0.extract ((ji29) : Int).toNat (t272 : Int).toNat) x271000_10 (⟨#[]⟩ : ByteArray) (⟨#[]⟩ : ByteArray))) else (none)) else (none)) else (none)) = some (r1, r2, r3, r4) := by first | (rw [hji29] at H; exact H) | (simp only [hji29] at H ⊢; exact H)
            (try rw [hji29] at A28)
            have hji29w : (IntKind.i64.wrap (t271 + 1)) = ji29 := (i64_w _).trans hji29
            by_cases c30 : 0 ≤ (ji29)
            ·rw [if_pos c30] at H
             have c30b0 := eq_true c30
             have c30b1 : decide (0 ≤ (ji29)) = true := decide_eq_true c30
             clear c30
             by_cases c31 : (ji29) ≤ t272
             ·rw [if_pos c31] at H
              have c31b0 := eq_true c31
              have c31b1 : decide ((ji29) ≤ t272) = true := decide_eq_true c31
              clear c31
              by_cases c32 : t272 ≤ (a0.size : Int)
              ·rw [if_pos c32] at H
               have c32b0 := eq_true c32
               have c32b1 : decide (t272 ≤ (a0.size : Int)) = true := decide_eq_true c32
               clear c32
               by_cases c33 : (a0.extract ((ji29) : Int).toNat (t272 : Int).toNat).toList = ([] : List UInt8)
               ·rw [if_pos c33] at H
                have c33b0 : ((a0.extract ((ji29) : Int).toNat (t272 : Int).toNat).toList == ([] : List UInt8)) = true := beq_iff_eq.mpr c33
                have c33b1 : ((a0.extract ((ji29) : Int).toNat (t272 : Int).toNat).toList != ([] : List UInt8)) = false := bne_eq_false_iff_eq.mpr c33
                have c33b2 : (a0.extract ((ji29) : Int).toNat (t272 : Int).toNat).toList.isEmpty = true := by rw [c33]; rfl
                have c33b3 : (!(a0.extract ((ji29) : Int).toNat (t272 : Int).toNat).toList.isEmpty) = false := by rw [c33]; rfl
                clear c33
                (first | rw [c33b0] | (simp only [i64_w, i32_w]; rw [c33b0]) | rw [c33b3] | rw [c33b2] | skip)
                simp only [Option.some.injEq, Prod.mk.injEq] at H
                obtain ⟨rfl, rfl, rfl, rfl⟩ := H
                go_wp2_with (first | ((with_reducible refine gate_callee (f := 26) rfl ?_); refine goesL_ (some 59) rfl rfl Tryz.func26 (by kernel_rfl) rfl #[.string a0, .int .i64 ji29] rfl (by (try simp only [List.map_toArray, List.map_cons, List.map_nil]); first | done | (simp only [hji29]; rfl) | rfl | (simp only [List.length_drop, List.length_take]; rfl)) ?_; (with_reducible refine (r1_run.calls kj21 a0 ji29 t272 _ A28.out).mono ?_); rintro e w' ⟨rfl, ⟨nd, rfl⟩⟩; refine ⟨_, rfl, ?_⟩; (try (rw [drewN_self wc]; generalize hq_ : World.drewN wc _ = wc; have n0_ : Aside0 (wc.heap[gb269]? = some (.cells #[.bool false, .string (⟨#[]⟩ : ByteArray), .string (⟨#[]⟩ : ByteArray)] 23 (0, 0))) := ⟨by rw [← hq_]; exact (by (with_reducible repeat (first | refine blk_drewN ?_ _ | refine blk_drew ?_ | refine blk_alloc ?_ _)); exact BK269.out)⟩; have n1_ : Aside0 (wc.heap[gb270]? = some (.cells #[.bool x271000_10, .string (⟨#[]⟩ : ByteArray), .string (⟨#[]⟩ : ByteArray)] 23 (0, 0))) := ⟨by rw [← hq_]; exact (by (with_reducible repeat (first | refine blk_drewN ?_ _ | refine blk_drew ?_ | refine blk_alloc ?_ _)); exact BK270.out)⟩; have n2_ : Aside0 (Below w.heap.size w wc) := ⟨by rw [← hq_]; exact (by repeat (first | (with_reducible first | exact HB.out | apply below_alloc | apply pw_below_drewN | apply below_drew1 | refine below_set ?_ GE269.out | refine below_set ?_ GE270.out) | exact HB.out))⟩; clear BK269 BK270 HB hq_; have BK269 := n0_; have BK270 := n1_; have HB := n2_; clear n0_ n1_ n2_)); have hnb34 := NB269_270.out; have hnc34 := NB270_269.out; have hcz35_0 : wc.cell? ⟨gb269, 0, none⟩ = some (.bool false) := (blk_cell BK269.out 0).trans rfl; have hcz35_1 : wc.cell? ⟨gb269, 1, none⟩ = some (.string (⟨#[]⟩ : ByteArray)) := (blk_cell BK269.out 1).trans rfl; have hcz35_2 : wc.cell? ⟨gb269, 2, none⟩ = some (.string (⟨#[]⟩ : ByteArray)) := (blk_cell BK269.out 2).trans rfl; have hfz35_0 := blk_frozen BK269.out 0; have hfz35_1 := blk_frozen BK269.out 1; have hfz35_2 := blk_frozen BK269.out 2))
                refine bodyPost_ret (results_ct rfl _ _ gb269 23 #[.bool false, .string (⟨#[]⟩ : ByteArray), .string (⟨#[]⟩ : ByteArray)] (0, 0) _ rfl (by (with_reducible repeat (first | refine blk_drewN ?_ _ | refine blk_drew ?_ | refine blk_alloc ?_ _)); refine blk_put (cs := #[.bool false, .string (⟨#[]⟩ : ByteArray), .string (⟨#[]⟩ : ByteArray)]) ?_ 2 _ rfl; (with_reducible repeat (first | refine blk_drewN ?_ _ | refine blk_drew ?_ | refine blk_alloc ?_ _)); refine blk_put (cs := #[.bool false, .string (⟨#[]⟩ : ByteArray), .string (⟨#[]⟩ : ByteArray)]) ?_ 1 _ rfl; (with_reducible repeat (first | refine blk_drewN ?_ _ | refine blk_drew ?_ | refine blk_alloc ?_ _)); refine blk_put (cs := #[.bool false, .string (⟨#[]⟩ : ByteArray), .string (⟨#[]⟩ : ByteArray)]) ?_ 0 _ rfl; (with_reducible repeat (first | refine blk_drewN ?_ _ | refine blk_drew ?_ | refine blk_alloc ?_ _)); exact BK269.out) Tryz.underlying23 rfl (by kernel_rfl)) rfl ?_
                exact ⟨by first | rfl | (simp [errW_none, errW_some] <;> rfl) | (simp only [← hji29]; first | rfl | (simp [errW_none, errW_some] <;> rfl)) | (simp [*, errW_none, errW_some] <;> rfl), by repeat (first | (with_reducible first | exact HB.out | apply below_alloc | apply pw_below_drewN | apply below_drew1 | refine below_set ?_ GE269.out | refine below_set ?_ GE270.out) | exact HB.out)⟩
               ·rw [if_neg c33] at H
                have c33b0 : ((a0.extract ((ji29) : Int).toNat (t272 : Int).toNat).toList == ([] : List UInt8)) = false := beq_eq_false_iff_ne.mpr c33
                have c33b1 : ((a0.extract ((ji29) : Int).toNat (t272 : Int).toNat).toList != ([] : List UInt8)) = true := bne_iff_ne.mpr c33
                have c33b2 : (a0.extract ((ji29) : Int).toNat (t272 : Int).toNat).toList.isEmpty = false := by simpa using c33
                have c33b3 : (!(a0.extract ((ji29) : Int).toNat (t272 : Int).toNat).toList.isEmpty) = true := by simpa using c33
                (first | rw [c33b0] | (simp only [i64_w, i32_w]; rw [c33b0]) | rw [c33b3] | rw [c33b2] | skip)
                have H' := Aside0.mk H
                clear H
                go_wp2_with (first | ((with_reducible refine gate_callee (f := 26) rfl ?_); refine goesL_ (some 59) rfl rfl Tryz.func26 (by kernel_rfl) rfl #[.string a0, .int .i64 ji29] rfl (by (try simp only [List.map_toArray, List.map_cons, List.map_nil]); first | done | (simp only [hji29]; rfl) | rfl | (simp only [List.length_drop, List.length_take]; rfl)) ?_; (with_reducible refine (r1_run.calls kj21 a0 ji29 t272 _ A28.out).mono ?_); rintro e w' ⟨rfl, ⟨nd, rfl⟩⟩; refine ⟨_, rfl, ?_⟩))
                go_meet
                case rel => exact ⟨_, (t272), (a0.extract ((ji29) : Int).toNat (t272 : Int).toNat), (false), ((⟨#[]⟩ : ByteArray)), ((⟨#[]⟩ : ByteArray)), (by first | rfl | (simp; done) | (simp [bne_nil_]; done) | (simp [*]; done) | (simp [wrap64]; done) | (refine congrArg (Value.int .i64) ?_; unfold wrap64; omega)), (by first | rfl | (simp; done) | (simp only [← hji29] <;> (first | rfl | simp)) | (simp [*]; done)), (by first | exact H' | (simp only [hji29]; exact H')), ⟨by have := HJ1.out; have := HJ10.out; have := HJ21.out; first | omega | exact Nat.le_refl _⟩, ⟨by (with_reducible repeat (first | refine blk_drewN ?_ _ | refine blk_drew ?_ | refine blk_alloc ?_ _)); exact BK269.out⟩, ⟨by (with_reducible repeat (first | refine blk_drewN ?_ _ | refine blk_drew ?_ | refine blk_alloc ?_ _)); exact BK270.out⟩, ⟨by repeat (first | (with_reducible first | exact HB.out | apply below_alloc | apply pw_below_drewN | apply below_drew1 | refine below_set ?_ GE269.out | refine below_set ?_ GE270.out) | exact HB.out)⟩⟩
              ·rw [if_neg c32] at H
               exact absurd H (by simp)
             ·rw [if_neg c31] at H
              exact absurd H (by simp)
            ·rw [if_neg c30] at H
             exact absurd H (by simp)
           ·replace c27 := Bool.eq_false_iff.mpr c27
            subst c27
            have H1 : (r1_ReadNum.j3 kj21 a0 t271 (a0.extract (x4_10 : Int).toNat (t271 : Int).toNat) (⟨#[]⟩ : ByteArray) x271000_10 (⟨#[]⟩ : ByteArray) (⟨#[]⟩ : ByteArray)) = some (r1, r2, r3, r4) := by rw [if_neg (show ¬ (false = true) by decide)] at H; exact H
            clear H
            have H := H1
            clear H1
            have H' := Aside0.mk H
            clear H
            go_wp2
            go_meet
            case rel => exact ⟨_, (t271), ((⟨#[]⟩ : ByteArray)), (false), ((⟨#[]⟩ : ByteArray)), ((⟨#[]⟩ : ByteArray)), (by first | rfl | (simp; done) | (simp [bne_nil_]; done) | (simp [*]; done) | (simp [wrap64]; done) | (refine congrArg (Value.int .i64) ?_; unfold wrap64; omega)), (by first | rfl | (simp; done) | (simp [bne_nil_]; done) | (simp [*]; done) | (simp [wrap64]; done) | (refine congrArg (Value.int .i64) ?_; unfold wrap64; omega)), H', ⟨by have := HJ1.out; have := HJ10.out; have := HJ21.out; first | omega | exact Nat.le_refl _⟩, ⟨by (with_reducible repeat (first | refine blk_drewN ?_ _ | refine blk_drew ?_ | refine blk_alloc ?_ _)); exact BK269.out⟩, ⟨by (with_reducible repeat (first | refine blk_drewN ?_ _ | refine blk_drew ?_ | refine blk_alloc ?_ _)); exact BK270.out⟩, ⟨by repeat (first | (with_reducible first | exact HB.out | apply below_alloc | apply pw_below_drewN | apply below_drew1 | refine below_set ?_ GE269.out | refine below_set ?_ GE270.out) | exact HB.out)⟩⟩
          case rest => as_aux_lemma =>
           clear HC26
           try clear c1
           try clear p1
           try clear q1
           try clear hx1
           try clear qi1
           try clear c2
           try clear p2
           try clear q2
           try clear hx2
           try clear c3
           try clear c5
           try clear p6
           try clear c7
           try clear c7b0
           try clear c7b1
           try clear p8
           try clear q8
           try clear hx8
           try clear qi8
           try clear c9
           try clear c9b0
           try clear c9b1
           try clear p10
           try clear q10
           try clear hx10
           try clear qi10
           try clear c12
           try clear c13
           try clear c13b0
           try clear c14
           try clear c14b0
           try clear c14b1
           try clear p15
           try clear q15
           try clear hx15
           try clear qi15
           try clear c16
           try clear c19
           try clear c19b0
           try clear c19b1
           try clear c20
           try clear c20b0
           try clear c20b1
           try clear c21
           try clear c21b0
           try clear c21b1
           try clear c23
           try clear c23b0
           try clear c24
           try clear c24b0
           try clear p25
           try clear q25
           try clear hx25
           try clear c26
           try clear c27
           try clear c30
           try clear c30b0
           try clear c30b1
           try clear c31
           try clear c31b0
           try clear c31b1
           try clear c32
           try clear c32b0
           try clear c32b1
           try clear c33
           try clear c33b0
           try clear c33b1
           try clear c33b2
           try clear c34
           try clear hcz17_0
           try clear hcz17_1
           try clear hcz17_2
           try clear hcz35_0
           try clear hcz35_1
           try clear hcz35_2
           try clear hcz6_0
           try clear hcz6_1
           try clear hcz6_2
           try clear hfz17_0
           try clear hfz17_1
           try clear hfz17_2
           try clear hfz35_0
           try clear hfz35_1
           try clear hfz35_2
           try clear hfz6_0
           try clear hfz6_1
           try clear hfz6_2
           try clear p1
           try clear p10
           try clear p15
           try clear p2
           try clear p25
           try clear p6
           try clear p8
           try clear q1
           try clear q10
           try clear q15
           try clear q2
           try clear q25
           try clear q8
           obtain ⟨kq, x6_25, x8_25, x270000_25, x270001_25, x270002_25, rfl, rfl, HA, HJ25, BK269, BK270, HB⟩ := hcut
           cases kq with
           | zero => exact absurd HA.out (by simp [r1_ReadNum.j3])
           | succ kj25 =>
            have H := HA.out
            clear HA
            simp only [r1_ReadNum.j3] at H
            by_cases c36 : (a0.extract (x4_10 : Int).toNat (t271 : Int).toNat).size + x8_25.size ≤ 9223372036854775807
            ·rw [if_pos c36] at H
             have c36b0 := eq_true c36
             have c36b1 : decide ((a0.extract (x4_10 : Int).toNat (t271 : Int).toNat).size + x8_25.size ≤ 9223372036854775807) = true := decide_eq_true c36
             try have c36b2 : (9223372036854775807 < (a0.extract (x4_10 : Int).toNat (t271 : Int).toNat).size + x8_25.size) = False := eq_false (Nat.not_lt.2 c36)
             (try (have c36b3 : (9223372036854775807 < (t271.toNat - x4_10.toNat) + x8_25.size) = False := eq_false (Nat.not_lt.2 (by have h_ := c36; (try simp only [ByteArray.size_append, ByteArray.size_extract] at h_); (try simp only [decide_eq_true_eq] at *); omega))))
             by_cases c37 : ((a0.extract (x4_10 : Int).toNat (t271 : Int).toNat) ++ x8_25).toList = ([] : List UInt8)
             ·rw [if_pos c37] at H
              have c37b0 : (((a0.extract (x4_10 : Int).toNat (t271 : Int).toNat) ++ x8_25).toList == ([] : List UInt8)) = true := beq_iff_eq.mpr c37
              have c37b1 : (((a0.extract (x4_10 : Int).toNat (t271 : Int).toNat) ++ x8_25).toList != ([] : List UInt8)) = false := bne_eq_false_iff_eq.mpr c37
              have c37b2 : ((a0.extract (x4_10 : Int).toNat (t271 : Int).toNat) ++ x8_25).toList.isEmpty = true := by rw [c37]; rfl
              have c37b3 : (!((a0.extract (x4_10 : Int).toNat (t271 : Int).toNat) ++ x8_25).toList.isEmpty) = false := by rw [c37]; rfl
              clear c37
              simp only [Option.some.injEq, Prod.mk.injEq] at H
              obtain ⟨rfl, rfl, rfl, rfl⟩ := H
              have hnb38 := NB269_270.out
              have hnc38 := NB270_269.out
              have hcz39_0 : wc.cell? ⟨gb269, 0, none⟩ = some (.bool x270000_25) := (blk_cell BK269.out 0).trans rfl
              have hcz39_1 : wc.cell? ⟨gb269, 1, none⟩ = some (.string x270001_25) := (blk_cell BK269.out 1).trans rfl
              have hcz39_2 : wc.cell? ⟨gb269, 2, none⟩ = some (.string x270002_25) := (blk_cell BK269.out 2).trans rfl
              have hfz39_0 := blk_frozen BK269.out 0
              have hfz39_1 := blk_frozen BK269.out 1
              have hfz39_2 := blk_frozen BK269.out 2
              go_wp2
              refine bodyPost_ret (results_ct rfl _ _ gb269 23 #[.bool false, .string (⟨#[]⟩ : ByteArray), .string (⟨#[]⟩ : ByteArray)] (0, 0) _ rfl (by (with_reducible repeat (first | refine blk_drewN ?_ _ | refine blk_drew ?_ | refine blk_alloc ?_ _)); refine blk_put (cs := #[.bool false, .string (⟨#[]⟩ : ByteArray), .string x270002_25]) ?_ 2 _ rfl; (with_reducible repeat (first | refine blk_drewN ?_ _ | refine blk_drew ?_ | refine blk_alloc ?_ _)); refine blk_put (cs := #[.bool false, .string x270001_25, .string x270002_25]) ?_ 1 _ rfl; (with_reducible repeat (first | refine blk_drewN ?_ _ | refine blk_drew ?_ | refine blk_alloc ?_ _)); refine blk_put (cs := #[.bool x270000_25, .string x270001_25, .string x270002_25]) ?_ 0 _ rfl; (with_reducible repeat (first | refine blk_drewN ?_ _ | refine blk_drew ?_ | refine blk_alloc ?_ _)); exact BK269.out) Tryz.underlying23 rfl (by kernel_rfl)) rfl ?_
              exact ⟨by first | rfl | (simp [errW_none, errW_some] <;> rfl) | (simp [*, errW_none, errW_some] <;> rfl), by repeat (first | (with_reducible first | exact HB.out | apply below_alloc | apply pw_below_drewN | apply below_drew1 | refine below_set ?_ GE269.out | refine below_set ?_ GE270.out) | exact HB.out)⟩
             ·rw [if_neg c37] at H
              have c37b0 : (((a0.extract (x4_10 : Int).toNat (t271 : Int).toNat) ++ x8_25).toList == ([] : List UInt8)) = false := beq_eq_false_iff_ne.mpr c37
              have c37b1 : (((a0.extract (x4_10 : Int).toNat (t271 : Int).toNat) ++ x8_25).toList != ([] : List UInt8)) = true := bne_iff_ne.mpr c37
              have c37b2 : ((a0.extract (x4_10 : Int).toNat (t271 : Int).toNat) ++ x8_25).toList.isEmpty = false := by simpa using c37
              have c37b3 : (!((a0.extract (x4_10 : Int).toNat (t271 : Int).toNat) ++ x8_25).toList.isEmpty) = true := by simpa using c37
              have HC40 := Aside0.mk H
              clear H
              go_upto_region 18 with (fail)
              go_cut [89] (fun v89 wc => ∃ (kq : Nat) (x89_39 : Bool), v89 = .bool x89_39 ∧ Aside0 (r1_ReadNum.j4 kq a0 x6_25 (a0.extract (x4_10 : Int).toNat (t271 : Int).toNat) x8_25 (⟨#[48]⟩ : ByteArray) x89_39 x271000_10 (⟨#[]⟩ : ByteArray) (⟨#[]⟩ : ByteArray) = some (r1, r2, r3, r4)) ∧ Aside0 (kq ≤ kj25) ∧ Aside0 (wc.heap[gb269]? = some (.cells #[.bool x270000_25, .string x270001_25, .string x270002_25] 23 (0, 0))) ∧ Aside0 (wc.heap[gb270]? = some (.cells #[.bool x271000_10, .string (⟨#[]⟩ : ByteArray), .string (⟨#[]⟩ : ByteArray)] 23 (0, 0))) ∧ Aside0 (Below w.heap.size w wc))
              case first => as_aux_lemma =>
               have H := HC40.out
               clear HC40
               by_cases c41 : x6_25 < (a0.size : Int)
               ·rw [if_pos c41] at H
                have c41b0 : decide (x6_25 < (a0.size : Int)) = true := decide_eq_true c41
                clear c41
                (first | rw [c41b0] | (simp only [i64_w, i32_w]; rw [c41b0]) | skip)
                by_cases c42 : 0 ≤ x6_25
                ·rw [if_pos c42] at H
                 have c42b0 : decide (0 ≤ x6_25) = true := decide_eq_true c42
                 clear c42
                 by_cases c44 : (bt a0 x6_25) = 101
                 ·rw [if_pos c44] at H
                  have c44b0 : ((bt a0 x6_25) == 101) = true := beq_iff_eq.mpr c44
                  have c44b1 : ((bt a0 x6_25) != 101) = false := bne_eq_false_iff_eq.mpr c44
                  clear c44
                  have H' := Aside0.mk H
                  clear H
                  have p43 : 0 ≤ (x6_25 : Int) := of_decide_eq_true (by first | (with_reducible assumption) | assumption)
                  have q43 : x6_25 < (a0.size : Int) := of_decide_eq_true (by first | (with_reducible assumption) | assumption)
                  have hx43 := bt_at a0 x6_25
                  replace p43 := eq_true p43
                  replace q43 := eq_true q43
                  go_wp2
                  go_meet
                  case rel => exact ⟨_, (true), (by first | rfl | (simp; done) | (simp [bne_nil_]; done) | (simp [*]; done) | (simp [wrap64]; done) | (refine congrArg (Value.int .i64) ?_; unfold wrap64; omega)), H', ⟨by have := HJ1.out; have := HJ10.out; have := HJ21.out; have := HJ25.out; first | omega | exact Nat.le_refl _⟩, ⟨by (with_reducible repeat (first | refine blk_drewN ?_ _ | refine blk_drew ?_ | refine blk_alloc ?_ _)); exact BK269.out⟩, ⟨by (with_reducible repeat (first | refine blk_drewN ?_ _ | refine blk_drew ?_ | refine blk_alloc ?_ _)); exact BK270.out⟩, ⟨by repeat (first | (with_reducible first | exact HB.out | apply below_alloc | apply pw_below_drewN | apply below_drew1 | refine below_set ?_ GE269.out | refine below_set ?_ GE270.out) | exact HB.out)⟩⟩
                 ·rw [if_neg c44] at H
                  have c44b0 : ((bt a0 x6_25) == 101) = false := beq_eq_false_iff_ne.mpr c44
                  have c44b1 : ((bt a0 x6_25) != 101) = true := bne_iff_ne.mpr c44
                  have H' := Aside0.mk H
                  clear H
                  have p43 : 0 ≤ (x6_25 : Int) := of_decide_eq_true (by first | (with_reducible assumption) | assumption)
                  have q43 : x6_25 < (a0.size : Int) := of_decide_eq_true (by first | (with_reducible assumption) | assumption)
                  have hx43 := bt_at a0 x6_25
                  replace p43 := eq_true p43
                  replace q43 := eq_true q43
                  have p45 : 0 ≤ (x6_25 : Int) := of_decide_eq_true (by first | (with_reducible assumption) | assumption)
                  have q45 : x6_25 < (a0.size : Int) := of_decide_eq_true (by first | (with_reducible assumption) | assumption)
                  have hx45 := bt_at a0 x6_25
                  replace p45 := eq_true p45
                  replace q45 := eq_true q45
                  go_wp2
                  go_meet
                  case rel => exact ⟨_, (((bt a0 x6_25) == 69)), (by first | rfl | (simp; done) | (simp [bne_nil_]; done) | (simp [*]; done) | (simp [wrap64]; done) | (refine congrArg (Value.int .i64) ?_; unfold wrap64; omega)), H', ⟨by have := HJ1.out; have := HJ10.out; have := HJ21.out; have := HJ25.out; first | omega | exact Nat.le_refl _⟩, ⟨by (with_reducible repeat (first | refine blk_drewN ?_ _ | refine blk_drew ?_ | refine blk_alloc ?_ _)); exact BK269.out⟩, ⟨by (with_reducible repeat (first | refine blk_drewN ?_ _ | refine blk_drew ?_ | refine blk_alloc ?_ _)); exact BK270.out⟩, ⟨by repeat (first | (with_reducible first | exact HB.out | apply below_alloc | apply pw_below_drewN | apply below_drew1 | refine below_set ?_ GE269.out | refine below_set ?_ GE270.out) | exact HB.out)⟩⟩
                ·rw [if_neg c42] at H
                 exact absurd H (by simp)
               ·rw [if_neg c41] at H
                have c41b0 : decide (x6_25 < (a0.size : Int)) = false := decide_eq_false c41
                clear c41
                (first | rw [c41b0] | (simp only [i64_w, i32_w]; rw [c41b0]) | skip)
                have H' := Aside0.mk H
                clear H
                go_wp2
                go_meet
                case rel => exact ⟨_, (false), (by first | rfl | (simp; done) | (simp [bne_nil_]; done) | (simp [*]; done) | (simp [wrap64]; done) | (refine congrArg (Value.int .i64) ?_; unfold wrap64; omega)), H', ⟨by have := HJ1.out; have := HJ10.out; have := HJ21.out; have := HJ25.out; first | omega | exact Nat.le_refl _⟩, ⟨by (with_reducible repeat (first | refine blk_drewN ?_ _ | refine blk_drew ?_ | refine blk_alloc ?_ _)); exact BK269.out⟩, ⟨by (with_reducible repeat (first | refine blk_drewN ?_ _ | refine blk_drew ?_ | refine blk_alloc ?_ _)); exact BK270.out⟩, ⟨by repeat (first | (with_reducible first | exact HB.out | apply below_alloc | apply pw_below_drewN | apply below_drew1 | refine below_set ?_ GE269.out | refine below_set ?_ GE270.out) | exact HB.out)⟩⟩
              case rest => as_aux_lemma =>
               clear HC40
               try clear c1
               try clear p1
               try clear q1
               try clear hx1
               try clear qi1
               try clear c2
               try clear p2
               try clear q2
               try clear hx2
               try clear c3
               try clear c4
               try clear p4
               try clear q4
               try clear hx4
               try clear c5
               try clear p6
               try clear c7
               try clear c7b0
               try clear c7b1
               try clear p8
               try clear q8
               try clear hx8
               try clear qi8
               try clear c9
               try clear c9b0
               try clear c9b1
               try clear p10
               try clear q10
               try clear hx10
               try clear qi10
               try clear c12
               try clear c13
               try clear c13b0
               try clear c14
               try clear c14b0
               try clear c14b1
               try clear p15
               try clear q15
               try clear hx15
               try clear qi15
               try clear c16
               try clear c19
               try clear c19b0
               try clear c19b1
               try clear c20
               try clear c20b0
               try clear c20b1
               try clear c21
               try clear c21b0
               try clear c21b1
               try clear c23
               try clear c23b0
               try clear c24
               try clear c24b0
               try clear p25
               try clear q25
               try clear hx25
               try clear c26
               try clear c27
               try clear c30
               try clear c30b0
               try clear c30b1
               try clear c31
               try clear c31b0
               try clear c31b1
               try clear c32
               try clear c32b0
               try clear c32b1
               try clear c33
               try clear c33b0
               try clear c33b1
               try clear c33b2
               try clear c34
               try clear c36
               try clear c36b0
               try clear c36b1
               try clear c36b2
               try clear c37
               try clear c37b0
               try clear c37b1
               try clear c37b2
               try clear c38
               try clear c41
               try clear c41b0
               try clear c42
               try clear c42b0
               try clear p43
               try clear q43
               try clear hx43
               try clear c44
               try clear c44b0
               try clear c44b1
               try clear p45
               try clear q45
               try clear hx45
               try clear hcz17_0
               try clear hcz17_1
               try clear hcz17_2
               try clear hcz35_0
               try clear hcz35_1
               try clear hcz35_2
               try clear hcz39_0
               try clear hcz39_1
               try clear hcz39_2
               try clear hcz6_0
               try clear hcz6_1
               try clear hcz6_2
               try clear hfz17_0
               try clear hfz17_1
               try clear hfz17_2
               try clear hfz35_0
               try clear hfz35_1
               try clear hfz35_2
               try clear hfz39_0
               try clear hfz39_1
               try clear hfz39_2
               try clear hfz6_0
               try clear hfz6_1
               try clear hfz6_2
               try clear p1
               try clear p10
               try clear p15
               try clear p2
               try clear p25
               try clear p43
               try clear p45
               try clear p6
               try clear p8
               try clear q1
               try clear q10
               try clear q15
               try clear q2
               try clear q25
               try clear q43
               try clear q45
               try clear q8
               obtain ⟨kq, x89_39, rfl, HA, HJ39, BK269, BK270, HB⟩ := hcut
               cases kq with
               | zero => exact absurd HA.out (by simp [r1_ReadNum.j4])
               | succ kj39 =>
                have H := HA.out
                clear HA
                simp only [r1_ReadNum.j4] at H
                have HC46 := Aside0.mk H
                clear H
                go_upto_if 89 with (fail)
                go_cut [6, 10] (fun v6 v10 wc => ∃ (kq : Nat) (x6_45 : Int) (x10_45 : ByteArray) (x270000_45 : Bool) (x270001_45 : ByteArray) (x270002_45 : ByteArray), v6 = .int .i64 x6_45 ∧ v10 = .string x10_45 ∧ Aside0 (r1_ReadNum.j7 kq a0 x6_45 (a0.extract (x4_10 : Int).toNat (t271 : Int).toNat) x8_25 x10_45 x271000_10 (⟨#[]⟩ : ByteArray) (⟨#[]⟩ : ByteArray) = some (r1, r2, r3, r4)) ∧ Aside0 (kq ≤ kj39) ∧ Aside0 (wc.heap[gb269]? = some (.cells #[.bool x270000_45, .string x270001_45, .string x270002_45] 23 (0, 0))) ∧ Aside0 (wc.heap[gb270]? = some (.cells #[.bool x271000_10, .string (⟨#[]⟩ : ByteArray), .string (⟨#[]⟩ : ByteArray)] 23 (0, 0))) ∧ Aside0 (Below w.heap.size w wc))
                case first => as_aux_lemma =>
                 have H := HC46.out
                 clear HC46
                 by_cases c47 : x89_39 = true
                 ·subst c47
                  have H1 : (if (wrap64 (x6_25 + 1)) < (a0.size : Int) then (if 0 ≤ (wrap64 (x6_25 + 1)) then (if (bt a0 (wrap64 (x6_25 + 1))) = 43 then (r1_ReadNum.j5 kj39 a0 (wrap64 (x6_25 + 1)) (a0.extract (x4_10 : Int).toNat (t271 : Int).toNat) x8_25 false true x271000_10 (⟨#[]⟩ : ByteArray) (⟨#[]⟩ : ByteArray)) else (r1_ReadNum.j5 kj39 a0 (wrap64 (x6_25 + 1)) (a0.extract (x4_10 : Int).toNat (t271 : Int).toNat) x8_25 false ((bt a0 (wrap64 (x6_25 + 1))) == 45) x271000_10 (⟨#[]⟩ : ByteArray) (⟨#[]⟩ : ByteArray))) else (none)) else (r1_ReadNum.j5 kj39 a0 (wrap64 (x6_25 + 1)) (a0.extract (x4_10 : Int).toNat (t271 : Int).toNat) x8_25 false false x271000_10 (⟨#[]⟩ : ByteArray) (⟨#[]⟩ : ByteArray))) = some (r1, r2, r3, r4) := by rw [if_pos rfl] at H; exact H
                  clear H
                  have H := H1
                  clear H1
                  have HC48 := Aside0.mk H
                  clear H
                  go_upto_region 21 with (fail)
                  go_cut [107] (fun v107 wc => ∃ (kq : Nat) (x107_47 : Bool), v107 = .bool x107_47 ∧ Aside0 (r1_ReadNum.j5 kq a0 (wrap64 (x6_25 + 1)) (a0.extract (x4_10 : Int).toNat (t271 : Int).toNat) x8_25 false x107_47 x271000_10 (⟨#[]⟩ : ByteArray) (⟨#[]⟩ : ByteArray) = some (r1, r2, r3, r4)) ∧ Aside0 (kq ≤ kj39) ∧ Aside0 (wc.heap[gb269]? = some (.cells #[.bool x270000_25, .string x270001_25, .string x270002_25] 23 (0, 0))) ∧ Aside0 (wc.heap[gb270]? = some (.cells #[.bool x271000_10, .string (⟨#[]⟩ : ByteArray), .string (⟨#[]⟩ : ByteArray)] 23 (0, 0))) ∧ Aside0 (Below w.heap.size w wc))
                  case first => as_aux_lemma =>
                   have H := HC48.out
                   clear HC48
                   by_cases c49 : (wrap64 (x6_25 + 1)) < (a0.size : Int)
                   ·rw [if_pos c49] at H
                    have c49b0 : decide ((wrap64 (x6_25 + 1)) < (a0.size : Int)) = true := decide_eq_true c49
                    clear c49
                    (first | rw [c49b0] | (simp only [i64_w, i32_w]; rw [c49b0]) | skip)
                    obtain ⟨ji50, hji50⟩ : ∃ j_ : Int, (wrap64 (x6_25 + 1)) = j_ := ⟨_, rfl⟩
                    replace H : (if 0 ≤ (ji50) then (if (bt a0 (ji50)) = 43 then (r1_ReadNum.j5 kj39 a0 ji50 (a0.extract (x4_10 : Int).toNat (t271 : Int).toNat) x8_25 false true x271000_10 (⟨#[]⟩ : ByteArray) (⟨#[]⟩ : ByteArray)) else (r1_ReadNum.j5 kj39 a0 ji50 (a0.extract (x4_10 : Int).toNat (t271 : Int).toNat) x8_25 false ((bt a0 (ji50)) == 45) x271000_10 (⟨#[]⟩ : ByteArray) (⟨#[]⟩ : ByteArray))) else (none)) = some (r1, r2, r3, r4) := by first | (rw [hji50] at H; exact H) | (simp only [hji50] at H ⊢; exact H)
                    (try rw [hji50] at c49b0)
                    have hji50w : (IntKind.i64.wrap (x6_25 + 1)) = ji50 := (i64_w _).trans hji50
                    by_cases c51 : 0 ≤ (ji50)
                    ·rw [if_pos c51] at H
                     have c51b0 : decide (0 ≤ (ji50)) = true := decide_eq_true c51
                     clear c51
                     by_cases c53 : (bt a0 (ji50)) = 43
                     ·rw [if_pos c53] at H
                      have c53b0 : ((bt a0 (ji50)) == 43) = true := beq_iff_eq.mpr c53
                      have c53b1 : ((bt a0 (ji50)) != 43) = false := bne_eq_false_iff_eq.mpr c53
                      clear c53
                      have H' := Aside0.mk H
                      clear H
                      have p52 : 0 ≤ ((ji50) : Int) := of_decide_eq_true (by first | (with_reducible assumption) | assumption)
                      have q52 : (ji50) < (a0.size : Int) := of_decide_eq_true (by first | (with_reducible assumption) | assumption)
                      have hx52 := bt_at a0 (ji50)
                      replace p52 := eq_true p52
                      replace q52 := eq_true q52
                      go_wp2
                      go_meet
                      case rel => exact ⟨_, (true), (by first | rfl | (simp; done) | (simp [bne_nil_]; done) | (simp [*]; done) | (simp [wrap64]; done) | (refine congrArg (Value.int .i64) ?_; unfold wrap64; omega)), (by first | exact H' | (simp only [hji50]; exact H')), ⟨by have := HJ1.out; have := HJ10.out; have := HJ21.out; have := HJ25.out; have := HJ39.out; first | omega | exact Nat.le_refl _⟩, ⟨by (with_reducible repeat (first | refine blk_drewN ?_ _ | refine blk_drew ?_ | refine blk_alloc ?_ _)); exact BK269.out⟩, ⟨by (with_reducible repeat (first | refine blk_drewN ?_ _ | refine blk_drew ?_ | refine blk_alloc ?_ _)); exact BK270.out⟩, ⟨by repeat (first | (with_reducible first | exact HB.out | apply below_alloc | apply pw_below_drewN | apply below_drew1 | refine below_set ?_ GE269.out | refine below_set ?_ GE270.out) | exact HB.out)⟩⟩
                     ·rw [if_neg c53] at H
                      have c53b0 : ((bt a0 (ji50)) == 43) = false := beq_eq_false_iff_ne.mpr c53
                      have c53b1 : ((bt a0 (ji50)) != 43) = true := bne_iff_ne.mpr c53
                      have H' := Aside0.mk H
                      clear H
                      have p52 : 0 ≤ ((ji50) : Int) := of_decide_eq_true (by first | (with_reducible assumption) | assumption)
                      have q52 : (ji50) < (a0.size : Int) := of_decide_eq_true (by first | (with_reducible assumption) | assumption)
                      have hx52 := bt_at a0 (ji50)
                      replace p52 := eq_true p52
                      replace q52 := eq_true q52
                      have p54 : 0 ≤ ((ji50) : Int) := of_decide_eq_true (by first | (with_reducible assumption) | assumption)
                      have q54 : (ji50) < (a0.size : Int) := of_decide_eq_true (by first | (with_reducible assumption) | assumption)
                      have hx54 := bt_at a0 (ji50)
                      replace p54 := eq_true p54
                      replace q54 := eq_true q54
                      go_wp2
                      go_meet
                      case rel => exact ⟨_, (((bt a0 (ji50)) == 45)), (by first | rfl | (simp; done) | (simp only [← hji50] <;> (first | rfl | simp)) | (simp [*]; done)), (by first | exact H' | (simp only [hji50]; exact H')), ⟨by have := HJ1.out; have := HJ10.out; have := HJ21.out; have := HJ25.out; have := HJ39.out; first | omega | exact Nat.le_refl _⟩, ⟨by (with_reducible repeat (first | refine blk_drewN ?_ _ | refine blk_drew ?_ | refine blk_alloc ?_ _)); exact BK269.out⟩, ⟨by (with_reducible repeat (first | refine blk_drewN ?_ _ | refine blk_drew ?_ | refine blk_alloc ?_ _)); exact BK270.out⟩, ⟨by repeat (first | (with_reducible first | exact HB.out | apply below_alloc | apply pw_below_drewN | apply below_drew1 | refine below_set ?_ GE269.out | refine below_set ?_ GE270.out) | exact HB.out)⟩⟩
                    ·rw [if_neg c51] at H
                     exact absurd H (by simp)
                   ·rw [if_neg c49] at H
                    have c49b0 : decide ((wrap64 (x6_25 + 1)) < (a0.size : Int)) = false := decide_eq_false c49
                    clear c49
                    (first | rw [c49b0] | (simp only [i64_w, i32_w]; rw [c49b0]) | skip)
                    have H' := Aside0.mk H
                    clear H
                    go_wp2
                    go_meet
                    case rel => exact ⟨_, (false), (by first | rfl | (simp; done) | (simp [bne_nil_]; done) | (simp [*]; done) | (simp [wrap64]; done) | (refine congrArg (Value.int .i64) ?_; unfold wrap64; omega)), H', ⟨by have := HJ1.out; have := HJ10.out; have := HJ21.out; have := HJ25.out; have := HJ39.out; first | omega | exact Nat.le_refl _⟩, ⟨by (with_reducible repeat (first | refine blk_drewN ?_ _ | refine blk_drew ?_ | refine blk_alloc ?_ _)); exact BK269.out⟩, ⟨by (with_reducible repeat (first | refine blk_drewN ?_ _ | refine blk_drew ?_ | refine blk_alloc ?_ _)); exact BK270.out⟩, ⟨by repeat (first | (with_reducible first | exact HB.out | apply below_alloc | apply pw_below_drewN | apply below_drew1 | refine below_set ?_ GE269.out | refine below_set ?_ GE270.out) | exact HB.out)⟩⟩
                  case rest => as_aux_lemma =>
                   clear HC48
                   try clear c1
                   try clear p1
                   try clear q1
                   try clear hx1
                   try clear qi1
                   try clear c2
                   try clear p2
                   try clear q2
                   try clear hx2
                   try clear c3
                   try clear c4
                   try clear p4
                   try clear q4
                   try clear hx4
                   try clear c5
                   try clear p5
                   try clear q5
                   try clear hx5
                   try clear p6
                   try clear c7
                   try clear c7b0
                   try clear c7b1
                   try clear p8
                   try clear q8
                   try clear hx8
                   try clear qi8
                   try clear c9
                   try clear c9b0
                   try clear c9b1
                   try clear p10
                   try clear q10
                   try clear hx10
                   try clear qi10
                   try clear c12
                   try clear c13
                   try clear c13b0
                   try clear c14
                   try clear c14b0
                   try clear c14b1
                   try clear p15
                   try clear q15
                   try clear hx15
                   try clear qi15
                   try clear c16
                   try clear c19
                   try clear c19b0
                   try clear c19b1
                   try clear c20
                   try clear c20b0
                   try clear c20b1
                   try clear c21
                   try clear c21b0
                   try clear c21b1
                   try clear c23
                   try clear c23b0
                   try clear c24
                   try clear c24b0
                   try clear p25
                   try clear q25
                   try clear hx25
                   try clear c26
                   try clear c27
                   try clear c30
                   try clear c30b0
                   try clear c30b1
                   try clear c31
                   try clear c31b0
                   try clear c31b1
                   try clear c32
                   try clear c32b0
                   try clear c32b1
                   try clear c33
                   try clear c33b0
                   try clear c33b1
                   try clear c33b2
                   try clear c34
                   try clear c36
                   try clear c36b0
                   try clear c36b1
                   try clear c36b2
                   try clear c37
                   try clear c37b0
                   try clear c37b1
                   try clear c37b2
                   try clear c38
                   try clear c41
                   try clear c41b0
                   try clear c42
                   try clear c42b0
                   try clear p43
                   try clear q43
                   try clear hx43
                   try clear c44
                   try clear c44b0
                   try clear c44b1
                   try clear p45
                   try clear q45
                   try clear hx45
                   try clear c47
                   try clear c49
                   try clear c49b0
                   try clear c51
                   try clear c51b0
                   try clear p52
                   try clear q52
                   try clear hx52
                   try clear c53
                   try clear c53b0
                   try clear c53b1
                   try clear p54
                   try clear q54
                   try clear hx54
                   try clear hcz17_0
                   try clear hcz17_1
                   try clear hcz17_2
                   try clear hcz35_0
                   try clear hcz35_1
                   try clear hcz35_2
                   try clear hcz39_0
                   try clear hcz39_1
                   try clear hcz39_2
                   try clear hcz6_0
                   try clear hcz6_1
                   try clear hcz6_2
                   try clear hfz17_0
                   try clear hfz17_1
                   try clear hfz17_2
                   try clear hfz35_0
                   try clear hfz35_1
                   try clear hfz35_2
                   try clear hfz39_0
                   try clear hfz39_1
                   try clear hfz39_2
                   try clear hfz6_0
                   try clear hfz6_1
                   try clear hfz6_2
                   try clear p1
                   try clear p10
                   try clear p15
                   try clear p2
                   try clear p25
                   try clear p4
                   try clear p43
                   try clear p45
                   try clear p52
                   try clear p54
                   try clear p6
                   try clear p8
                   try clear q1
                   try clear q10
                   try clear q15
                   try clear q2
                   try clear q25
                   try clear q4
                   try clear q43
                   try clear q45
                   try clear q52
                   try clear q54
                   try clear q8
                   obtain ⟨kq, x107_47, rfl, HA, HJ47, BK269, BK270, HB⟩ := hcut
                   cases kq with
                   | zero => exact absurd HA.out (by simp [r1_ReadNum.j5])
                   | succ kj47 =>
                    have H := HA.out
                    clear HA
                    simp only [r1_ReadNum.j5] at H
                    have HC55 := Aside0.mk H
                    clear H
                    go_upto_if 107 with (fail)
                    go_cut [6, 11] (fun v6 v11 wc => ∃ (kq : Nat) (x6_54 : Int) (x11_54 : Bool), v6 = .int .i64 x6_54 ∧ v11 = .bool x11_54 ∧ Aside0 (r1_ReadNum.j6 kq a0 x6_54 (a0.extract (x4_10 : Int).toNat (t271 : Int).toNat) x8_25 x11_54 x271000_10 (⟨#[]⟩ : ByteArray) (⟨#[]⟩ : ByteArray) = some (r1, r2, r3, r4)) ∧ Aside0 (kq ≤ kj47) ∧ Aside0 (wc.heap[gb269]? = some (.cells #[.bool x270000_25, .string x270001_25, .string x270002_25] 23 (0, 0))) ∧ Aside0 (wc.heap[gb270]? = some (.cells #[.bool x271000_10, .string (⟨#[]⟩ : ByteArray), .string (⟨#[]⟩ : ByteArray)] 23 (0, 0))) ∧ Aside0 (Below w.heap.size w wc))
                    case first => as_aux_lemma =>
                     have H := HC55.out
                     clear HC55
                     by_cases c56 : x107_47 = true
                     ·subst c56
                      have H1 : (if 0 ≤ (wrap64 (x6_25 + 1)) then (if (wrap64 (x6_25 + 1)) < (a0.size : Int) then (r1_ReadNum.j6 kj47 a0 (wrap64 ((wrap64 (x6_25 + 1)) + 1)) (a0.extract (x4_10 : Int).toNat (t271 : Int).toNat) x8_25 ((bt a0 (wrap64 (x6_25 + 1))) == 45) x271000_10 (⟨#[]⟩ : ByteArray) (⟨#[]⟩ : ByteArray)) else (none)) else (none)) = some (r1, r2, r3, r4) := by rw [if_pos rfl] at H; exact H
                      clear H
                      have H := H1
                      clear H1
                      obtain ⟨ji57, hji57⟩ : ∃ j_ : Int, (wrap64 (x6_25 + 1)) = j_ := ⟨_, rfl⟩
                      replace H : (if 0 ≤ (ji57) then (if (ji57) < (a0.size : Int) then (r1_ReadNum.j6 kj47 a0 (wrap64 ((ji57) + 1)) (a0.extract (x4_10 : Int).toNat (t271 : Int).toNat) x8_25 ((bt a0 (ji57)) == 45) x271000_10 (⟨#[]⟩ : ByteArray) (⟨#[]⟩ : ByteArray)) else (none)) else (none)) = some (r1, r2, r3, r4) := by first | (rw [hji57] at H; exact H) | (simp only [hji57] at H ⊢; exact H)
                      have hji57w : (IntKind.i64.wrap (x6_25 + 1)) = ji57 := (i64_w _).trans hji57
                      by_cases c58 : 0 ≤ (ji57)
                      ·rw [if_pos c58] at H
                       have c58b0 : decide (0 ≤ (ji57)) = true := decide_eq_true c58
                       clear c58
                       (first | rw [c58b0] | (simp only [i64_w, i32_w]; rw [c58b0]) | skip)
                       by_cases c59 : (ji57) < (a0.size : Int)
                       ·rw [if_pos c59] at H
                        have c59b0 : decide ((ji57) < (a0.size : Int)) = true := decide_eq_true c59
                        clear c59
                        have H' := Aside0.mk H
                        clear H
                        have p60 : 0 ≤ ((ji57) : Int) := of_decide_eq_true (by first | (with_reducible assumption) | assumption)
                        have q60 : (ji57) < (a0.size : Int) := of_decide_eq_true (by first | (with_reducible assumption) | assumption)
                        have hx60 := bt_at a0 (ji57)
                        replace p60 := eq_true p60
                        replace q60 := eq_true q60
                        go_wp2
                        go_meet
                        case rel => exact ⟨_, (wrap64 ((ji57) + 1)), (((bt a0 (ji57)) == 45)), (by first | rfl | (simp; done) | (simp only [← hji57] <;> (first | rfl | simp)) | (simp [*]; done)), (by first | rfl | (simp; done) | (simp only [← hji57] <;> (first | rfl | simp)) | (simp [*]; done)), (by first | exact H' | (simp only [hji57]; exact H')), ⟨by have := HJ1.out; have := HJ10.out; have := HJ21.out; have := HJ25.out; have := HJ39.out; have := HJ47.out; first | omega | exact Nat.le_refl _⟩, ⟨by (with_reducible repeat (first | refine blk_drewN ?_ _ | refine blk_drew ?_ | refine blk_alloc ?_ _)); exact BK269.out⟩, ⟨by (with_reducible repeat (first | refine blk_drewN ?_ _ | refine blk_drew ?_ | refine blk_alloc ?_ _)); exact BK270.out⟩, ⟨by repeat (first | (with_reducible first | exact HB.out | apply below_alloc | apply pw_below_drewN | apply below_drew1 | refine below_set ?_ GE269.out | refine below_set ?_ GE270.out) | exact HB.out)⟩⟩
                       ·rw [if_neg c59] at H
                        exact absurd H (by simp)
                      ·rw [if_neg c58] at H
                       exact absurd H (by simp)
                     ·replace c56 := Bool.eq_false_iff.mpr c56
                      subst c56
                      have H1 : (r1_ReadNum.j6 kj47 a0 (wrap64 (x6_25 + 1)) (a0.extract (x4_10 : Int).toNat (t271 : Int).toNat) x8_25 false x271000_10 (⟨#[]⟩ : ByteArray) (⟨#[]⟩ : ByteArray)) = some (r1, r2, r3, r4) := by rw [if_neg (show ¬ (false = true) by decide)] at H; exact H
                      clear H
                      have H := H1
                      clear H1
                      have H' := Aside0.mk H
                      clear H
                      go_wp2
                      go_meet
                      case rel => exact ⟨_, ((wrap64 (x6_25 + 1))), (false), (by first | rfl | (simp; done) | (simp [bne_nil_]; done) | (simp [*]; done) | (simp [wrap64]; done) | (refine congrArg (Value.int .i64) ?_; unfold wrap64; omega)), (by first | rfl | (simp; done) | (simp [bne_nil_]; done) | (simp [*]; done) | (simp [wrap64]; done) | (refine congrArg (Value.int .i64) ?_; unfold wrap64; omega)), H', ⟨by have := HJ1.out; have := HJ10.out; have := HJ21.out; have := HJ25.out; have := HJ39.out; have := HJ47.out; first | omega | exact Nat.le_refl _⟩, ⟨by (with_reducible repeat (first | refine blk_drewN ?_ _ | refine blk_drew ?_ | refine blk_alloc ?_ _)); exact BK269.out⟩, ⟨by (with_reducible repeat (first | refine blk_drewN ?_ _ | refine blk_drew ?_ | refine blk_alloc ?_ _)); exact BK270.out⟩, ⟨by repeat (first | (with_reducible first | exact HB.out | apply below_alloc | apply pw_below_drewN | apply below_drew1 | refine below_set ?_ GE269.out | refine below_set ?_ GE270.out) | exact HB.out)⟩⟩
                    case rest => as_aux_lemma =>
                     clear HC55
                     try clear c1
                     try clear p1
                     try clear q1
                     try clear hx1
                     try clear qi1
                     try clear c2
                     try clear p2
                     try clear q2
                     try clear hx2
                     try clear c3
                     try clear c4
                     try clear p4
                     try clear q4
                     try clear hx4
                     try clear c5
                     try clear p5
                     try clear q5
                     try clear hx5
                     try clear p6
                     try clear q6
                     try clear hx6
                     try clear c7
                     try clear c7b0
                     try clear c7b1
                     try clear p8
                     try clear q8
                     try clear hx8
                     try clear qi8
                     try clear c9
                     try clear c9b0
                     try clear c9b1
                     try clear p10
                     try clear q10
                     try clear hx10
                     try clear qi10
                     try clear c12
                     try clear c13
                     try clear c13b0
                     try clear c14
                     try clear c14b0
                     try clear c14b1
                     try clear p15
                     try clear q15
                     try clear hx15
                     try clear qi15
                     try clear c16
                     try clear c19
                     try clear c19b0
                     try clear c19b1
                     try clear c20
                     try clear c20b0
                     try clear c20b1
                     try clear c21
                     try clear c21b0
                     try clear c21b1
                     try clear c23
                     try clear c23b0
                     try clear c24
                     try clear c24b0
                     try clear p25
                     try clear q25
                     try clear hx25
                     try clear c26
                     try clear c27
                     try clear c30
                     try clear c30b0
                     try clear c30b1
                     try clear c31
                     try clear c31b0
                     try clear c31b1
                     try clear c32
                     try clear c32b0
                     try clear c32b1
                     try clear c33
                     try clear c33b0
                     try clear c33b1
                     try clear c33b2
                     try clear c34
                     try clear c36
                     try clear c36b0
                     try clear c36b1
                     try clear c36b2
                     try clear c37
                     try clear c37b0
                     try clear c37b1
                     try clear c37b2
                     try clear c38
                     try clear c41
                     try clear c41b0
                     try clear c42
                     try clear c42b0
                     try clear p43
                     try clear q43
                     try clear hx43
                     try clear c44
                     try clear c44b0
                     try clear c44b1
                     try clear p45
                     try clear q45
                     try clear hx45
                     try clear c47
                     try clear c49
                     try clear c49b0
                     try clear c51
                     try clear c51b0
                     try clear p52
                     try clear q52
                     try clear hx52
                     try clear c53
                     try clear c53b0
                     try clear c53b1
                     try clear p54
                     try clear q54
                     try clear hx54
                     try clear c56
                     try clear c58
                     try clear c58b0
                     try clear c59
                     try clear c59b0
                     try clear p60
                     try clear q60
                     try clear hx60
                     try clear hcz17_0
                     try clear hcz17_1
                     try clear hcz17_2
                     try clear hcz35_0
                     try clear hcz35_1
                     try clear hcz35_2
                     try clear hcz39_0
                     try clear hcz39_1
                     try clear hcz39_2
                     try clear hcz6_0
                     try clear hcz6_1
                     try clear hcz6_2
                     try clear hfz17_0
                     try clear hfz17_1
                     try clear hfz17_2
                     try clear hfz35_0
                     try clear hfz35_1
                     try clear hfz35_2
                     try clear hfz39_0
                     try clear hfz39_1
                     try clear hfz39_2
                     try clear hfz6_0
                     try clear hfz6_1
                     try clear hfz6_2
                     try clear p1
                     try clear p10
                     try clear p15
                     try clear p2
                     try clear p25
                     try clear p4
                     try clear p43
                     try clear p45
                     try clear p5
                     try clear p52
                     try clear p54
                     try clear p6
                     try clear p60
                     try clear p8
                     try clear q1
                     try clear q10
                     try clear q15
                     try clear q2
                     try clear q25
                     try clear q4
                     try clear q43
                     try clear q45
                     try clear q5
                     try clear q52
                     try clear q54
                     try clear q60
                     try clear q8
                     obtain ⟨kq, x6_54, x11_54, rfl, rfl, HA, HJ54, BK269, BK270, HB⟩ := hcut
                     cases kq with
                     | zero => exact absurd HA.out (by simp [r1_ReadNum.j6])
                     | succ kj54 =>
                      have H := HA.out
                      clear HA
                      simp only [r1_ReadNum.j6] at H
                      replace H := Option.bind_eq_some_iff.mp H
                      obtain ⟨t273, A610, H⟩ := H
                      replace H : (if t273 = x6_54 then (some (false, (⟨#[]⟩ : ByteArray), (⟨#[]⟩ : ByteArray), false)) else (if 0 ≤ x6_54 then (if x6_54 ≤ t273 then (if t273 ≤ (a0.size : Int) then ((r1_stripped.f kj54 (a0.extract (x6_54 : Int).toNat (t273 : Int).toNat)).bind fun t274 => (if x11_54 = true then (if t274.toList = ([48] : List UInt8) then (r1_ReadNum.j7 kj54 a0 t273 (a0.extract (x4_10 : Int).toNat (t271 : Int).toNat) x8_25 t274 x271000_10 (⟨#[]⟩ : ByteArray) (⟨#[]⟩ : ByteArray)) else (if 1 + t274.size ≤ 9223372036854775807 then (r1_ReadNum.j7 kj54 a0 t273 (a0.extract (x4_10 : Int).toNat (t271 : Int).toNat) x8_25 ((⟨#[45]⟩ : ByteArray) ++ t274) x271000_10 (⟨#[]⟩ : ByteArray) (⟨#[]⟩ : ByteArray)) else (none))) else (r1_ReadNum.j7 kj54 a0 t273 (a0.extract (x4_10 : Int).toNat (t271 : Int).toNat) x8_25 t274 x271000_10 (⟨#[]⟩ : ByteArray) (⟨#[]⟩ : ByteArray)))) else (none)) else (none)) else (none))) = some (r1, r2, r3, r4) := H
                      have A61 := Aside0.mk A610
                      clear A610
                      by_cases c62 : t273 = x6_54
                      ·rw [if_pos c62] at H
                       have c62b0 : (t273 == x6_54) = true := beq_iff_eq.mpr c62
                       have c62b1 : (t273 != x6_54) = false := bne_eq_false_iff_eq.mpr c62
                       clear c62
                       simp only [Option.some.injEq, Prod.mk.injEq] at H
                       obtain ⟨rfl, rfl, rfl, rfl⟩ := H
                       go_wp2_with (first | ((with_reducible refine gate_callee (f := 26) rfl ?_); refine goesL_ (some 116) rfl rfl Tryz.func26 (by kernel_rfl) rfl #[.string a0, .int .i64 x6_54] rfl (by (try simp only [List.map_toArray, List.map_cons, List.map_nil]); first | done | rfl | (simp only [List.length_drop, List.length_take]; rfl)) ?_; (with_reducible refine (r1_run.calls kj54 a0 x6_54 t273 _ A61.out).mono ?_); rintro e w' ⟨rfl, ⟨nd, rfl⟩⟩; refine ⟨_, rfl, ?_⟩; (try (rw [drewN_self wc]; generalize hq_ : World.drewN wc _ = wc; have n0_ : Aside0 (wc.heap[gb269]? = some (.cells #[.bool x270000_25, .string x270001_25, .string x270002_25] 23 (0, 0))) := ⟨by rw [← hq_]; exact (by (with_reducible repeat (first | refine blk_drewN ?_ _ | refine blk_drew ?_ | refine blk_alloc ?_ _)); exact BK269.out)⟩; have n1_ : Aside0 (wc.heap[gb270]? = some (.cells #[.bool x271000_10, .string (⟨#[]⟩ : ByteArray), .string (⟨#[]⟩ : ByteArray)] 23 (0, 0))) := ⟨by rw [← hq_]; exact (by (with_reducible repeat (first | refine blk_drewN ?_ _ | refine blk_drew ?_ | refine blk_alloc ?_ _)); exact BK270.out)⟩; have n2_ : Aside0 (Below w.heap.size w wc) := ⟨by rw [← hq_]; exact (by repeat (first | (with_reducible first | exact HB.out | apply below_alloc | apply pw_below_drewN | apply below_drew1 | refine below_set ?_ GE269.out | refine below_set ?_ GE270.out) | exact HB.out))⟩; clear BK269 BK270 HB hq_; have BK269 := n0_; have BK270 := n1_; have HB := n2_; clear n0_ n1_ n2_)); have hnb63 := NB269_270.out; have hnc63 := NB270_269.out; have hcz64_0 : wc.cell? ⟨gb269, 0, none⟩ = some (.bool x270000_25) := (blk_cell BK269.out 0).trans rfl; have hcz64_1 : wc.cell? ⟨gb269, 1, none⟩ = some (.string x270001_25) := (blk_cell BK269.out 1).trans rfl; have hcz64_2 : wc.cell? ⟨gb269, 2, none⟩ = some (.string x270002_25) := (blk_cell BK269.out 2).trans rfl; have hfz64_0 := blk_frozen BK269.out 0; have hfz64_1 := blk_frozen BK269.out 1; have hfz64_2 := blk_frozen BK269.out 2))
                       refine bodyPost_ret (results_ct rfl _ _ gb269 23 #[.bool false, .string (⟨#[]⟩ : ByteArray), .string (⟨#[]⟩ : ByteArray)] (0, 0) _ rfl (by (with_reducible repeat (first | refine blk_drewN ?_ _ | refine blk_drew ?_ | refine blk_alloc ?_ _)); refine blk_put (cs := #[.bool false, .string (⟨#[]⟩ : ByteArray), .string x270002_25]) ?_ 2 _ rfl; (with_reducible repeat (first | refine blk_drewN ?_ _ | refine blk_drew ?_ | refine blk_alloc ?_ _)); refine blk_put (cs := #[.bool false, .string x270001_25, .string x270002_25]) ?_ 1 _ rfl; (with_reducible repeat (first | refine blk_drewN ?_ _ | refine blk_drew ?_ | refine blk_alloc ?_ _)); refine blk_put (cs := #[.bool x270000_25, .string x270001_25, .string x270002_25]) ?_ 0 _ rfl; (with_reducible repeat (first | refine blk_drewN ?_ _ | refine blk_drew ?_ | refine blk_alloc ?_ _)); exact BK269.out) Tryz.underlying23 rfl (by kernel_rfl)) rfl ?_
                       exact ⟨by first | rfl | (simp [errW_none, errW_some] <;> rfl) | (simp [*, errW_none, errW_some] <;> rfl), by repeat (first | (with_reducible first | exact HB.out | apply below_alloc | apply pw_below_drewN | apply below_drew1 | refine below_set ?_ GE269.out | refine below_set ?_ GE270.out) | exact HB.out)⟩
                      ·rw [if_neg c62] at H
                       have c62b0 : (t273 == x6_54) = false := beq_eq_false_iff_ne.mpr c62
                       have c62b1 : (t273 != x6_54) = true := bne_iff_ne.mpr c62
                       by_cases c65 : 0 ≤ x6_54
                       ·rw [if_pos c65] at H
                        have c65b0 := eq_true c65
                        have c65b1 : decide (0 ≤ x6_54) = true := decide_eq_true c65
                        clear c65
                        by_cases c66 : x6_54 ≤ t273
                        ·rw [if_pos c66] at H
                         have c66b0 := eq_true c66
                         have c66b1 : decide (x6_54 ≤ t273) = true := decide_eq_true c66
                         clear c66
                         by_cases c67 : t273 ≤ (a0.size : Int)
                         ·rw [if_pos c67] at H
                          have c67b0 := eq_true c67
                          have c67b1 : decide (t273 ≤ (a0.size : Int)) = true := decide_eq_true c67
                          clear c67
                          replace H := Option.bind_eq_some_iff.mp H
                          obtain ⟨t274, A680, H⟩ := H
                          replace H : (if x11_54 = true then (if t274.toList = ([48] : List UInt8) then (r1_ReadNum.j7 kj54 a0 t273 (a0.extract (x4_10 : Int).toNat (t271 : Int).toNat) x8_25 t274 x271000_10 (⟨#[]⟩ : ByteArray) (⟨#[]⟩ : ByteArray)) else (if 1 + t274.size ≤ 9223372036854775807 then (r1_ReadNum.j7 kj54 a0 t273 (a0.extract (x4_10 : Int).toNat (t271 : Int).toNat) x8_25 ((⟨#[45]⟩ : ByteArray) ++ t274) x271000_10 (⟨#[]⟩ : ByteArray) (⟨#[]⟩ : ByteArray)) else (none))) else (r1_ReadNum.j7 kj54 a0 t273 (a0.extract (x4_10 : Int).toNat (t271 : Int).toNat) x8_25 t274 x271000_10 (⟨#[]⟩ : ByteArray) (⟨#[]⟩ : ByteArray))) = some (r1, r2, r3, r4) := H
                          have A68 := Aside0.mk A680
                          clear A680
                          by_cases c69 : x11_54 = true
                          ·subst c69
                           have H1 : (if t274.toList = ([48] : List UInt8) then (r1_ReadNum.j7 kj54 a0 t273 (a0.extract (x4_10 : Int).toNat (t271 : Int).toNat) x8_25 t274 x271000_10 (⟨#[]⟩ : ByteArray) (⟨#[]⟩ : ByteArray)) else (if 1 + t274.size ≤ 9223372036854775807 then (r1_ReadNum.j7 kj54 a0 t273 (a0.extract (x4_10 : Int).toNat (t271 : Int).toNat) x8_25 ((⟨#[45]⟩ : ByteArray) ++ t274) x271000_10 (⟨#[]⟩ : ByteArray) (⟨#[]⟩ : ByteArray)) else (none))) = some (r1, r2, r3, r4) := by rw [if_pos rfl] at H; exact H
                           clear H
                           have H := H1
                           clear H1
                           by_cases c70 : t274.toList = ([48] : List UInt8)
                           ·rw [if_pos c70] at H
                            have c70b0 : (t274.toList == ([48] : List UInt8)) = true := beq_iff_eq.mpr c70
                            have c70b1 : (t274.toList != ([48] : List UInt8)) = false := bne_eq_false_iff_eq.mpr c70
                            clear c70
                            have H' := Aside0.mk H
                            clear H
                            go_wp2_with (first | ((with_reducible refine gate_callee (f := 26) rfl ?_); refine goesL_ (some 116) rfl rfl Tryz.func26 (by kernel_rfl) rfl #[.string a0, .int .i64 x6_54] rfl (by (try simp only [List.map_toArray, List.map_cons, List.map_nil]); first | done | rfl | (simp only [List.length_drop, List.length_take]; rfl)) ?_; (with_reducible refine (r1_run.calls kj54 a0 x6_54 t273 _ A61.out).mono ?_); rintro e w' ⟨rfl, ⟨nd, rfl⟩⟩; refine ⟨_, rfl, ?_⟩) | ((with_reducible refine gate_callee (f := 27) rfl ?_); refine goesL_ (some 125) rfl rfl Tryz.func27 (by kernel_rfl) rfl #[.string (a0.extract (x6_54 : Int).toNat (t273 : Int).toNat)] rfl (by (try simp only [List.map_toArray, List.map_cons, List.map_nil]); first | done | rfl | (simp only [List.length_drop, List.length_take]; rfl)) ?_; (with_reducible refine (r1_stripped.calls kj54 (a0.extract (x6_54 : Int).toNat (t273 : Int).toNat) t274 _ A68.out).mono ?_); rintro e w' ⟨rfl, ⟨nd, rfl⟩⟩; refine ⟨_, rfl, ?_⟩))
                            go_meet
                            case rel => exact ⟨_, (t273), (t274), (x270000_25), (x270001_25), (x270002_25), (by first | rfl | (simp; done) | (simp [bne_nil_]; done) | (simp [*]; done) | (simp [wrap64]; done) | (refine congrArg (Value.int .i64) ?_; unfold wrap64; omega)), (by first | rfl | (simp; done) | (simp [bne_nil_]; done) | (simp [*]; done) | (simp [wrap64]; done) | (refine congrArg (Value.int .i64) ?_; unfold wrap64; omega)), H', ⟨by have := HJ1.out; have := HJ10.out; have := HJ21.out; have := HJ25.out; have := HJ39.out; have := HJ47.out; have := HJ54.out; first | omega | exact Nat.le_refl _⟩, ⟨by (with_reducible repeat (first | refine blk_drewN ?_ _ | refine blk_drew ?_ | refine blk_alloc ?_ _)); exact BK269.out⟩, ⟨by (with_reducible repeat (first | refine blk_drewN ?_ _ | refine blk_drew ?_ | refine blk_alloc ?_ _)); exact BK270.out⟩, ⟨by repeat (first | (with_reducible first | exact HB.out | apply below_alloc | apply pw_below_drewN | apply below_drew1 | refine below_set ?_ GE269.out | refine below_set ?_ GE270.out) | exact HB.out)⟩⟩
                           ·rw [if_neg c70] at H
                            have c70b0 : (t274.toList == ([48] : List UInt8)) = false := beq_eq_false_iff_ne.mpr c70
                            have c70b1 : (t274.toList != ([48] : List UInt8)) = true := bne_iff_ne.mpr c70
                            by_cases c71 : 1 + t274.size ≤ 9223372036854775807
                            ·rw [if_pos c71] at H
                             have c71b0 := eq_true c71
                             have c71b1 : decide (1 + t274.size ≤ 9223372036854775807) = true := decide_eq_true c71
                             try have c71b2 : (9223372036854775807 < 1 + t274.size) = False := eq_false (Nat.not_lt.2 c71)
                             have H' := Aside0.mk H
                             clear H
                             go_wp2_with (first | ((with_reducible refine gate_callee (f := 26) rfl ?_); refine goesL_ (some 116) rfl rfl Tryz.func26 (by kernel_rfl) rfl #[.string a0, .int .i64 x6_54] rfl (by (try simp only [List.map_toArray, List.map_cons, List.map_nil]); first | done | rfl | (simp only [List.length_drop, List.length_take]; rfl)) ?_; (with_reducible refine (r1_run.calls kj54 a0 x6_54 t273 _ A61.out).mono ?_); rintro e w' ⟨rfl, ⟨nd, rfl⟩⟩; refine ⟨_, rfl, ?_⟩) | ((with_reducible refine gate_callee (f := 27) rfl ?_); refine goesL_ (some 125) rfl rfl Tryz.func27 (by kernel_rfl) rfl #[.string (a0.extract (x6_54 : Int).toNat (t273 : Int).toNat)] rfl (by (try simp only [List.map_toArray, List.map_cons, List.map_nil]); first | done | rfl | (simp only [List.length_drop, List.length_take]; rfl)) ?_; (with_reducible refine (r1_stripped.calls kj54 (a0.extract (x6_54 : Int).toNat (t273 : Int).toNat) t274 _ A68.out).mono ?_); rintro e w' ⟨rfl, ⟨nd, rfl⟩⟩; refine ⟨_, rfl, ?_⟩))
                             go_meet
                             case rel => exact ⟨_, (t273), ((⟨#[45]⟩ : ByteArray) ++ t274), (x270000_25), (x270001_25), (x270002_25), (by first | rfl | (simp; done) | (simp [bne_nil_]; done) | (simp [*]; done) | (simp [wrap64]; done) | (refine congrArg (Value.int .i64) ?_; unfold wrap64; omega)), (by first | rfl | (simp; done) | (simp [bne_nil_]; done) | (simp [*]; done) | (simp [wrap64]; done) | (refine congrArg (Value.int .i64) ?_; unfold wrap64; omega)), H', ⟨by have := HJ1.out; have := HJ10.out; have := HJ21.out; have := HJ25.out; have := HJ39.out; have := HJ47.out; have := HJ54.out; first | omega | exact Nat.le_refl _⟩, ⟨by (with_reducible repeat (first | refine blk_drewN ?_ _ | refine blk_drew ?_ | refine blk_alloc ?_ _)); exact BK269.out⟩, ⟨by (with_reducible repeat (first | refine blk_drewN ?_ _ | refine blk_drew ?_ | refine blk_alloc ?_ _)); exact BK270.out⟩, ⟨by repeat (first | (with_reducible first | exact HB.out | apply below_alloc | apply pw_below_drewN | apply below_drew1 | refine below_set ?_ GE269.out | refine below_set ?_ GE270.out) | exact HB.out)⟩⟩
                            ·rw [if_neg c71] at H
                             exact absurd H (by simp)
                          ·replace c69 := Bool.eq_false_iff.mpr c69
                           subst c69
                           have H1 : (r1_ReadNum.j7 kj54 a0 t273 (a0.extract (x4_10 : Int).toNat (t271 : Int).toNat) x8_25 t274 x271000_10 (⟨#[]⟩ : ByteArray) (⟨#[]⟩ : ByteArray)) = some (r1, r2, r3, r4) := by rw [if_neg (show ¬ (false = true) by decide)] at H; exact H
                           clear H
                           have H := H1
                           clear H1
                           have H' := Aside0.mk H
                           clear H
                           go_wp2_with (first | ((with_reducible refine gate_callee (f := 26) rfl ?_); refine goesL_ (some 116) rfl rfl Tryz.func26 (by kernel_rfl) rfl #[.string a0, .int .i64 x6_54] rfl (by (try simp only [List.map_toArray, List.map_cons, List.map_nil]); first | done | rfl | (simp only [List.length_drop, List.length_take]; rfl)) ?_; (with_reducible refine (r1_run.calls kj54 a0 x6_54 t273 _ A61.out).mono ?_); rintro e w' ⟨rfl, ⟨nd, rfl⟩⟩; refine ⟨_, rfl, ?_⟩) | ((with_reducible refine gate_callee (f := 27) rfl ?_); refine goesL_ (some 125) rfl rfl Tryz.func27 (by kernel_rfl) rfl #[.string (a0.extract (x6_54 : Int).toNat (t273 : Int).toNat)] rfl (by (try simp only [List.map_toArray, List.map_cons, List.map_nil]); first | done | rfl | (simp only [List.length_drop, List.length_take]; rfl)) ?_; (with_reducible refine (r1_stripped.calls kj54 (a0.extract (x6_54 : Int).toNat (t273 : Int).toNat) t274 _ A68.out).mono ?_); rintro e w' ⟨rfl, ⟨nd, rfl⟩⟩; refine ⟨_, rfl, ?_⟩))
                           go_meet
                           case rel => exact ⟨_, (t273), (t274), (x270000_25), (x270001_25), (x270002_25), (by first | rfl | (simp; done) | (simp [bne_nil_]; done) | (simp [*]; done) | (simp [wrap64]; done) | (refine congrArg (Value.int .i64) ?_; unfold wrap64; omega)), (by first | rfl | (simp; done) | (simp [bne_nil_]; done) | (simp [*]; done) | (simp [wrap64]; done) | (refine congrArg (Value.int .i64) ?_; unfold wrap64; omega)), H', ⟨by have := HJ1.out; have := HJ10.out; have := HJ21.out; have := HJ25.out; have := HJ39.out; have := HJ47.out; have := HJ54.out; first | omega | exact Nat.le_refl _⟩, ⟨by (with_reducible repeat (first | refine blk_drewN ?_ _ | refine blk_drew ?_ | refine blk_alloc ?_ _)); exact BK269.out⟩, ⟨by (with_reducible repeat (first | refine blk_drewN ?_ _ | refine blk_drew ?_ | refine blk_alloc ?_ _)); exact BK270.out⟩, ⟨by repeat (first | (with_reducible first | exact HB.out | apply below_alloc | apply pw_below_drewN | apply below_drew1 | refine below_set ?_ GE269.out | refine below_set ?_ GE270.out) | exact HB.out)⟩⟩
                         ·rw [if_neg c67] at H
                          exact absurd H (by simp)
                        ·rw [if_neg c66] at H
                         exact absurd H (by simp)
                       ·rw [if_neg c65] at H
                        exact absurd H (by simp)
                 ·replace c47 := Bool.eq_false_iff.mpr c47
                  subst c47
                  have H1 : (r1_ReadNum.j7 kj39 a0 x6_25 (a0.extract (x4_10 : Int).toNat (t271 : Int).toNat) x8_25 (⟨#[48]⟩ : ByteArray) x271000_10 (⟨#[]⟩ : ByteArray) (⟨#[]⟩ : ByteArray)) = some (r1, r2, r3, r4) := by rw [if_neg (show ¬ (false = true) by decide)] at H; exact H
                  clear H
                  have H := H1
                  clear H1
                  have H' := Aside0.mk H
                  clear H
                  go_wp2
                  go_meet
                  case rel => exact ⟨_, (x6_25), ((⟨#[48]⟩ : ByteArray)), (x270000_25), (x270001_25), (x270002_25), (by first | rfl | (simp; done) | (simp [bne_nil_]; done) | (simp [*]; done) | (simp [wrap64]; done) | (refine congrArg (Value.int .i64) ?_; unfold wrap64; omega)), (by first | rfl | (simp; done) | (simp [bne_nil_]; done) | (simp [*]; done) | (simp [wrap64]; done) | (refine congrArg (Value.int .i64) ?_; unfold wrap64; omega)), H', ⟨by have := HJ1.out; have := HJ10.out; have := HJ21.out; have := HJ25.out; have := HJ39.out; first | omega | exact Nat.le_refl _⟩, ⟨by (with_reducible repeat (first | refine blk_drewN ?_ _ | refine blk_drew ?_ | refine blk_alloc ?_ _)); exact BK269.out⟩, ⟨by (with_reducible repeat (first | refine blk_drewN ?_ _ | refine blk_drew ?_ | refine blk_alloc ?_ _)); exact BK270.out⟩, ⟨by repeat (first | (with_reducible first | exact HB.out | apply below_alloc | apply pw_below_drewN | apply below_drew1 | refine below_set ?_ GE269.out | refine below_set ?_ GE270.out) | exact HB.out)⟩⟩
                case rest => as_aux_lemma =>
                 clear HC46
                 try clear c1
                 try clear p1
                 try clear q1
                 try clear hx1
                 try clear qi1
                 try clear c2
                 try clear p2
                 try clear q2
                 try clear hx2
                 try clear c3
                 try clear c4
                 try clear p4
                 try clear q4
                 try clear hx4
                 try clear c5
                 try clear p5
                 try clear q5
                 try clear hx5
                 try clear c6
                 try clear p6
                 try clear q6
                 try clear hx6
                 try clear c7
                 try clear c7b0
                 try clear c7b1
                 try clear p8
                 try clear q8
                 try clear hx8
                 try clear qi8
                 try clear c9
                 try clear c9b0
                 try clear c9b1
                 try clear p10
                 try clear q10
                 try clear hx10
                 try clear qi10
                 try clear c12
                 try clear c13
                 try clear c13b0
                 try clear c14
                 try clear c14b0
                 try clear c14b1
                 try clear p15
                 try clear q15
                 try clear hx15
                 try clear qi15
                 try clear c16
                 try clear c19
                 try clear c19b0
                 try clear c19b1
                 try clear c20
                 try clear c20b0
                 try clear c20b1
                 try clear c21
                 try clear c21b0
                 try clear c21b1
                 try clear c23
                 try clear c23b0
                 try clear c24
                 try clear c24b0
                 try clear p25
                 try clear q25
                 try clear hx25
                 try clear c26
                 try clear c27
                 try clear c30
                 try clear c30b0
                 try clear c30b1
                 try clear c31
                 try clear c31b0
                 try clear c31b1
                 try clear c32
                 try clear c32b0
                 try clear c32b1
                 try clear c33
                 try clear c33b0
                 try clear c33b1
                 try clear c33b2
                 try clear c34
                 try clear c36
                 try clear c36b0
                 try clear c36b1
                 try clear c36b2
                 try clear c37
                 try clear c37b0
                 try clear c37b1
                 try clear c37b2
                 try clear c38
                 try clear c41
                 try clear c41b0
                 try clear c42
                 try clear c42b0
                 try clear p43
                 try clear q43
                 try clear hx43
                 try clear c44
                 try clear c44b0
                 try clear c44b1
                 try clear p45
                 try clear q45
                 try clear hx45
                 try clear c47
                 try clear c49
                 try clear c49b0
                 try clear c51
                 try clear c51b0
                 try clear p52
                 try clear q52
                 try clear hx52
                 try clear c53
                 try clear c53b0
                 try clear c53b1
                 try clear p54
                 try clear q54
                 try clear hx54
                 try clear c56
                 try clear c58
                 try clear c58b0
                 try clear c59
                 try clear c59b0
                 try clear p60
                 try clear q60
                 try clear hx60
                 try clear c62
                 try clear c62b0
                 try clear c62b1
                 try clear c63
                 try clear p64
                 try clear c65
                 try clear c65b0
                 try clear c65b1
                 try clear c66
                 try clear c66b0
                 try clear c66b1
                 try clear c67
                 try clear c67b0
                 try clear c67b1
                 try clear c69
                 try clear c70
                 try clear c70b0
                 try clear c70b1
                 try clear c71
                 try clear c71b0
                 try clear c71b1
                 try clear c71b2
                 try clear hcz17_0
                 try clear hcz17_1
                 try clear hcz17_2
                 try clear hcz35_0
                 try clear hcz35_1
                 try clear hcz35_2
                 try clear hcz39_0
                 try clear hcz39_1
                 try clear hcz39_2
                 try clear hcz64_0
                 try clear hcz64_1
                 try clear hcz64_2
                 try clear hcz6_0
                 try clear hcz6_1
                 try clear hcz6_2
                 try clear hfz17_0
                 try clear hfz17_1
                 try clear hfz17_2
                 try clear hfz35_0
                 try clear hfz35_1
                 try clear hfz35_2
                 try clear hfz39_0
                 try clear hfz39_1
                 try clear hfz39_2
                 try clear hfz64_0
                 try clear hfz64_1
                 try clear hfz64_2
                 try clear hfz6_0
                 try clear hfz6_1
                 try clear hfz6_2
                 try clear p1
                 try clear p10
                 try clear p15
                 try clear p2
                 try clear p25
                 try clear p4
                 try clear p43
                 try clear p45
                 try clear p5
                 try clear p52
                 try clear p54
                 try clear p6
                 try clear p60
                 try clear p8
                 try clear q1
                 try clear q10
                 try clear q15
                 try clear q2
                 try clear q25
                 try clear q4
                 try clear q43
                 try clear q45
                 try clear q5
                 try clear q52
                 try clear q54
                 try clear q6
                 try clear q60
                 try clear q8
                 obtain ⟨kq, x6_45, x10_45, x270000_45, x270001_45, x270002_45, rfl, rfl, HA, HJ45, BK269, BK270, HB⟩ := hcut
                 cases kq with
                 | zero => exact absurd HA.out (by simp [r1_ReadNum.j7])
                 | succ kj45 =>
                  have H := HA.out
                  clear HA
                  simp only [r1_ReadNum.j7] at H
                  by_cases c72 : x6_45 = (a0.size : Int)
                  ·rw [if_pos c72] at H
                   have c72b0 : (x6_45 == (a0.size : Int)) = true := beq_iff_eq.mpr c72
                   have c72b1 : (x6_45 != (a0.size : Int)) = false := bne_eq_false_iff_eq.mpr c72
                   clear c72
                   by_cases c73 : (a0.extract (x4_10 : Int).toNat (t271 : Int).toNat).size + x8_25.size ≤ 9223372036854775807
                   ·rw [if_pos c73] at H
                    have c73b0 := eq_true c73
                    have c73b1 : decide ((a0.extract (x4_10 : Int).toNat (t271 : Int).toNat).size + x8_25.size ≤ 9223372036854775807) = true := decide_eq_true c73
                    try have c73b2 : (9223372036854775807 < (a0.extract (x4_10 : Int).toNat (t271 : Int).toNat).size + x8_25.size) = False := eq_false (Nat.not_lt.2 c73)
                    (try (have c73b3 : (9223372036854775807 < (t271.toNat - x4_10.toNat) + x8_25.size) = False := eq_false (Nat.not_lt.2 (by have h_ := c73; (try simp only [ByteArray.size_append, ByteArray.size_extract] at h_); (try simp only [decide_eq_true_eq] at *); omega))))
                    replace H := Option.bind_eq_some_iff.mp H
                    obtain ⟨t275, A740, H⟩ := H
                    replace H : (r1_ReadNum.l0 kj45 x10_45 t275 (wrap64 (-(x8_25.size : Int))) x271000_10 (⟨#[]⟩ : ByteArray) (⟨#[]⟩ : ByteArray)) = some (r1, r2, r3, r4) := H
                    have A74 := Aside0.mk A740
                    clear A740
                    have HC75 := Aside0.mk H
                    clear H
                    go_upto_block 0 with (first | ((with_reducible refine gate_callee (f := 27) rfl ?_); refine goesL_ (some 142) rfl rfl Tryz.func27 (by kernel_rfl) rfl #[.string ((a0.extract (x4_10 : Int).toNat (t271 : Int).toNat) ++ x8_25)] rfl (by (try simp only [List.map_toArray, List.map_cons, List.map_nil]); first | done | rfl | (simp only [List.length_drop, List.length_take]; rfl)) ?_; (with_reducible refine (r1_stripped.calls kj45 ((a0.extract (x4_10 : Int).toNat (t271 : Int).toNat) ++ x8_25) t275 _ A74.out).mono ?_); rintro e w' ⟨rfl, ⟨nd, rfl⟩⟩; refine ⟨_, rfl, ?_⟩))
                    (try simp only [Act.put, List.setIfInBounds_toArray, List.set_cons_zero, List.set_cons_succ])
                    go_cut [13, 14] (fun v13 v14 wc => ∃ (kq : Nat) (x13_74 : ByteArray) (x14_74 : Int), v13 = .string x13_74 ∧ v14 = .int .i64 x14_74 ∧ Aside0 (r1_ReadNum.j9 kq x10_45 x13_74 x14_74 x271000_10 (⟨#[]⟩ : ByteArray) (⟨#[]⟩ : ByteArray) = some (r1, r2, r3, r4)) ∧ Aside0 (kq ≤ kj45) ∧ Aside0 (wc.heap[gb269]? = some (.cells #[.bool x270000_45, .string x270001_45, .string x270002_45] 23 (0, 0))) ∧ Aside0 (wc.heap[gb270]? = some (.cells #[.bool x271000_10, .string (⟨#[]⟩ : ByteArray), .string (⟨#[]⟩ : ByteArray)] 23 (0, 0))) ∧ Aside0 (Below w.heap.size w wc))
                    case first => as_aux_lemma =>
                     have H := HC75.out
                     clear HC75
                     have H' := Aside0.mk H
                     clear H
                     go_wp2
                     go_loopg [13, 14] kj45 (fun kq v13 v14 w' => ∃ (x13_7 : ByteArray) (x14_7 : Int), v13 = .string x13_7 ∧ v14 = .int .i64 x14_7 ∧ Aside0 (r1_ReadNum.l0 kq x10_45 x13_7 x14_7 x271000_10 (⟨#[]⟩ : ByteArray) (⟨#[]⟩ : ByteArray) = some (r1, r2, r3, r4)) ∧ Aside0 (kq ≤ kj45) ∧ Aside0 (w'.heap[gb269]? = some (.cells #[.bool x270000_45, .string x270001_45, .string x270002_45] 23 (0, 0))) ∧ Aside0 (w'.heap[gb270]? = some (.cells #[.bool x271000_10, .string (⟨#[]⟩ : ByteArray), .string (⟨#[]⟩ : ByteArray)] 23 (0, 0))) ∧ Aside0 (Below w.heap.size w w'))
                     case atStart => exact ⟨(t275), (wrap64 (-(x8_25.size : Int))), (by first | rfl | (simp; done) | (simp [bne_nil_]; done) | (simp [*]; done) | (simp [wrap64]; done) | (refine congrArg (Value.int .i64) ?_; unfold wrap64; omega)), (by first | rfl | (simp; done) | (simp [bne_nil_]; done) | (simp [*]; done) | (simp [wrap64]; done) | (refine congrArg (Value.int .i64) ?_; unfold wrap64; omega)), H', ⟨Nat.le_refl _⟩, ⟨by (with_reducible repeat (first | refine blk_drewN ?_ _ | refine blk_drew ?_ | refine blk_alloc ?_ _)); exact BK269.out⟩, ⟨by (with_reducible repeat (first | refine blk_drewN ?_ _ | refine blk_drew ?_ | refine blk_alloc ?_ _)); exact BK270.out⟩, ⟨by repeat (first | (with_reducible first | exact HB.out | apply below_alloc | apply pw_below_drewN | apply below_drew1 | refine below_set ?_ GE269.out | refine below_set ?_ GE270.out) | exact HB.out)⟩⟩
                     case round =>
                      clear H'
                      try clear c1
                      try clear p1
                      try clear q1
                      try clear hx1
                      try clear qi1
                      try clear c2
                      try clear p2
                      try clear q2
                      try clear hx2
                      try clear c3
                      try clear c4
                      try clear p4
                      try clear q4
                      try clear hx4
                      try clear c5
                      try clear p5
                      try clear q5
                      try clear hx5
                      try clear c6
                      try clear p6
                      try clear q6
                      try clear hx6
                      try clear c7
                      try clear c7b0
                      try clear c7b1
                      try clear p8
                      try clear q8
                      try clear hx8
                      try clear qi8
                      try clear c9
                      try clear c9b0
                      try clear c9b1
                      try clear p10
                      try clear q10
                      try clear hx10
                      try clear qi10
                      try clear c12
                      try clear c13
                      try clear c13b0
                      try clear c14
                      try clear c14b0
                      try clear c14b1
                      try clear p15
                      try clear q15
                      try clear hx15
                      try clear qi15
                      try clear c16
                      try clear c19
                      try clear c19b0
                      try clear c19b1
                      try clear c20
                      try clear c20b0
                      try clear c20b1
                      try clear c21
                      try clear c21b0
                      try clear c21b1
                      try clear c23
                      try clear c23b0
                      try clear c24
                      try clear c24b0
                      try clear p25
                      try clear q25
                      try clear hx25
                      try clear c26
                      try clear c27
                      try clear c30
                      try clear c30b0
                      try clear c30b1
                      try clear c31
                      try clear c31b0
                      try clear c31b1
                      try clear c32
                      try clear c32b0
                      try clear c32b1
                      try clear c33
                      try clear c33b0
                      try clear c33b1
                      try clear c33b2
                      try clear c34
                      try clear c36
                      try clear c36b0
                      try clear c36b1
                      try clear c36b2
                      try clear c37
                      try clear c37b0
                      try clear c37b1
                      try clear c37b2
                      try clear c38
                      try clear c41
                      try clear c41b0
                      try clear c42
                      try clear c42b0
                      try clear p43
                      try clear q43
                      try clear hx43
                      try clear c44
                      try clear c44b0
                      try clear c44b1
                      try clear p45
                      try clear q45
                      try clear hx45
                      try clear c47
                      try clear c49
                      try clear c49b0
                      try clear c51
                      try clear c51b0
                      try clear p52
                      try clear q52
                      try clear hx52
                      try clear c53
                      try clear c53b0
                      try clear c53b1
                      try clear p54
                      try clear q54
                      try clear hx54
                      try clear c56
                      try clear c58
                      try clear c58b0
                      try clear c59
                      try clear c59b0
                      try clear p60
                      try clear q60
                      try clear hx60
                      try clear c62
                      try clear c62b0
                      try clear c62b1
                      try clear c63
                      try clear p64
                      try clear c65
                      try clear c65b0
                      try clear c65b1
                      try clear c66
                      try clear c66b0
                      try clear c66b1
                      try clear c67
                      try clear c67b0
                      try clear c67b1
                      try clear c69
                      try clear c70
                      try clear c70b0
                      try clear c70b1
                      try clear c71
                      try clear c71b0
                      try clear c71b1
                      try clear c71b2
                      try clear c72
                      try clear c72b0
                      try clear c72b1
                      try clear c73
                      try clear c73b0
                      try clear c73b1
                      try clear c73b2
                      try clear hcz17_0
                      try clear hcz17_1
                      try clear hcz17_2
                      try clear hcz35_0
                      try clear hcz35_1
                      try clear hcz35_2
                      try clear hcz39_0
                      try clear hcz39_1
                      try clear hcz39_2
                      try clear hcz64_0
                      try clear hcz64_1
                      try clear hcz64_2
                      try clear hcz6_0
                      try clear hcz6_1
                      try clear hcz6_2
                      try clear hfz17_0
                      try clear hfz17_1
                      try clear hfz17_2
                      try clear hfz35_0
                      try clear hfz35_1
                      try clear hfz35_2
                      try clear hfz39_0
                      try clear hfz39_1
                      try clear hfz39_2
                      try clear hfz64_0
                      try clear hfz64_1
                      try clear hfz64_2
                      try clear hfz6_0
                      try clear hfz6_1
                      try clear hfz6_2
                      try clear p1
                      try clear p10
                      try clear p15
                      try clear p2
                      try clear p25
                      try clear p4
                      try clear p43
                      try clear p45
                      try clear p5
                      try clear p52
                      try clear p54
                      try clear p6
                      try clear p60
                      try clear p64
                      try clear p8
                      try clear q1
                      try clear q10
                      try clear q15
                      try clear q2
                      try clear q25
                      try clear q4
                      try clear q43
                      try clear q45
                      try clear q5
                      try clear q52
                      try clear q54
                      try clear q6
                      try clear q60
                      try clear q8
                      obtain ⟨x13_7, x14_7, rfl, rfl, HA, HK7, BK269, BK270, HB⟩ := hrel
                      cases gk with
                      | zero => exact absurd HA.out (by simp [r1_ReadNum.l0])
                      | succ k7 =>
                       have H := HA.out
                       clear HA
                       simp only [r1_ReadNum.l0] at H
                       by_cases c76 : (x13_7.size : Int) > 0
                       ·rw [if_pos c76] at H
                        have c76b0 : decide (0 < (x13_7.size : Int)) = true := decide_eq_true c76
                        have c76b1 : decide (0 < x13_7.size) = true := decide_eq_true (by omega)
                        clear c76
                        (first | rw [c76b0] | (simp only [i64_w, i32_w]; rw [c76b0]) | skip)
                        obtain ⟨ji77, hji77⟩ : ∃ j_ : Int, (wrap64 ((x13_7.size : Int) - 1)) = j_ := ⟨_, rfl⟩
                        replace H : (if 0 ≤ (ji77) then (if (ji77) < (x13_7.size : Int) then (if (bt x13_7 (ji77)) = 48 then (if (ji77) ≤ (x13_7.size : Int) then (r1_ReadNum.l0 k7 x10_45 (x13_7.extract 0 ((ji77) : Int).toNat) (wrap64 (x14_7 + 1)) x271000_10 (⟨#[]⟩ : ByteArray) (⟨#[]⟩ : ByteArray)) else (none)) else (r1_ReadNum.j9 k7 x10_45 x13_7 x14_7 x271000_10 (⟨#[]⟩ : ByteArray) (⟨#[]⟩ : ByteArray))) else (none)) else (none)) = some (r1, r2, r3, r4) := by first | (rw [hji77] at H; exact H) | (simp only [hji77] at H ⊢; exact H)
                        have hji77w : (IntKind.i64.wrap ((x13_7.size : Int) - 1)) = ji77 := (i64_w _).trans hji77
                        by_cases c78 : 0 ≤ (ji77)
                        ·rw [if_pos c78] at H
                         have c78b0 : decide (0 ≤ (ji77)) = true := decide_eq_true c78
                         clear c78
                         by_cases c79 : (ji77) < (x13_7.size : Int)
                         ·rw [if_pos c79] at H
                          have c79b0 : decide ((ji77) < (x13_7.size : Int)) = true := decide_eq_true c79
                          clear c79
                          by_cases c81 : (bt x13_7 (ji77)) = 48
                          ·rw [if_pos c81] at H
                           have c81b0 : ((bt x13_7 (ji77)) == 48) = true := beq_iff_eq.mpr c81
                           have c81b1 : ((bt x13_7 (ji77)) != 48) = false := bne_eq_false_iff_eq.mpr c81
                           clear c81
                           have c82b0 := eq_true (of_decide_eq_true (by first | (with_reducible assumption) | assumption) : 0 ≤ (ji77))
                           by_cases c83 : (ji77) ≤ (x13_7.size : Int)
                           ·rw [if_pos c83] at H
                            have c83b0 := eq_true c83
                            have c83b1 : decide ((ji77) ≤ (x13_7.size : Int)) = true := decide_eq_true c83
                            clear c83
                            have H' := Aside0.mk H
                            clear H
                            have p80 : 0 ≤ ((ji77) : Int) := of_decide_eq_true (by first | (with_reducible assumption) | assumption)
                            have q80 : (ji77) < (x13_7.size : Int) := of_decide_eq_true (by first | (with_reducible assumption) | assumption)
                            have hx80 := bt_at x13_7 (ji77)
                            replace p80 := eq_true p80
                            replace q80 := eq_true q80
                            go_wp2
                            go_roundg k7
                            case measure => have := HJ1.out; have := HJ10.out; have := HJ21.out; have := HJ25.out; have := HJ39.out; have := HJ45.out; have := HK7.out; omega
                            case rel => exact ⟨(x13_7.extract 0 ((ji77) : Int).toNat), (wrap64 (x14_7 + 1)), (by first | rfl | (simp; done) | (simp only [← hji77] <;> (first | rfl | simp)) | (simp [*]; done)), (by first | rfl | (simp; done) | (simp [bne_nil_]; done) | (simp [*]; done) | (simp [wrap64]; done) | (refine congrArg (Value.int .i64) ?_; unfold wrap64; omega)), H', ⟨by have := HJ1.out; have := HJ10.out; have := HJ21.out; have := HJ25.out; have := HJ39.out; have := HJ45.out; have := HK7.out; omega⟩, ⟨by (with_reducible repeat (first | refine blk_drewN ?_ _ | refine blk_drew ?_ | refine blk_alloc ?_ _)); exact BK269.out⟩, ⟨by (with_reducible repeat (first | refine blk_drewN ?_ _ | refine blk_drew ?_ | refine blk_alloc ?_ _)); exact BK270.out⟩, ⟨by repeat (first | (with_reducible first | exact HB.out | apply below_alloc | apply pw_below_drewN | apply below_drew1 | refine below_set ?_ GE269.out | refine below_set ?_ GE270.out) | exact HB.out)⟩⟩
                           ·rw [if_neg c83] at H
                            exact absurd H (by simp)
                          ·rw [if_neg c81] at H
                           have c81b0 : ((bt x13_7 (ji77)) == 48) = false := beq_eq_false_iff_ne.mpr c81
                           have c81b1 : ((bt x13_7 (ji77)) != 48) = true := bne_iff_ne.mpr c81
                           have H' := Aside0.mk H
                           clear H
                           have p80 : 0 ≤ ((ji77) : Int) := of_decide_eq_true (by first | (with_reducible assumption) | assumption)
                           have q80 : (ji77) < (x13_7.size : Int) := of_decide_eq_true (by first | (with_reducible assumption) | assumption)
                           have hx80 := bt_at x13_7 (ji77)
                           replace p80 := eq_true p80
                           replace q80 := eq_true q80
                           go_wp2
                           go_meet
                           case rel => exact ⟨_, (x13_7), (x14_7), (by first | rfl | (simp; done) | (simp [bne_nil_]; done) | (simp [*]; done) | (simp [wrap64]; done) | (refine congrArg (Value.int .i64) ?_; unfold wrap64; omega)), (by first | rfl | (simp; done) | (simp [bne_nil_]; done) | (simp [*]; done) | (simp [wrap64]; done) | (refine congrArg (Value.int .i64) ?_; unfold wrap64; omega)), (by first | exact H' | (simp only [hji77]; exact H')), ⟨by have := HJ1.out; have := HJ10.out; have := HJ21.out; have := HJ25.out; have := HJ39.out; have := HJ45.out; have := HK7.out; first | omega | exact Nat.le_refl _⟩, ⟨by (with_reducible repeat (first | refine blk_drewN ?_ _ | refine blk_drew ?_ | refine blk_alloc ?_ _)); exact BK269.out⟩, ⟨by (with_reducible repeat (first | refine blk_drewN ?_ _ | refine blk_drew ?_ | refine blk_alloc ?_ _)); exact BK270.out⟩, ⟨by repeat (first | (with_reducible first | exact HB.out | apply below_alloc | apply pw_below_drewN | apply below_drew1 | refine below_set ?_ GE269.out | refine below_set ?_ GE270.out) | exact HB.out)⟩⟩
                         ·rw [if_neg c79] at H
                          exact absurd H (by simp)
                        ·rw [if_neg c78] at H
                         exact absurd H (by simp)
                       ·rw [if_neg c76] at H
                        have c76b0 : decide (0 < (x13_7.size : Int)) = false := decide_eq_false c76
                        have c76b1 : decide (0 < x13_7.size) = false := decide_eq_false (by omega)
                        clear c76
                        (first | rw [c76b0] | (simp only [i64_w, i32_w]; rw [c76b0]) | skip)
                        have H' := Aside0.mk H
                        clear H
                        go_wp2
                        go_meet
                        case rel => exact ⟨_, (x13_7), (x14_7), (by first | rfl | (simp; done) | (simp [bne_nil_]; done) | (simp [*]; done) | (simp [wrap64]; done) | (refine congrArg (Value.int .i64) ?_; unfold wrap64; omega)), (by first | rfl | (simp; done) | (simp [bne_nil_]; done) | (simp [*]; done) | (simp [wrap64]; done) | (refine congrArg (Value.int .i64) ?_; unfold wrap64; omega)), H', ⟨by have := HJ1.out; have := HJ10.out; have := HJ21.out; have := HJ25.out; have := HJ39.out; have := HJ45.out; have := HK7.out; first | omega | exact Nat.le_refl _⟩, ⟨by (with_reducible repeat (first | refine blk_drewN ?_ _ | refine blk_drew ?_ | refine blk_alloc ?_ _)); exact BK269.out⟩, ⟨by (with_reducible repeat (first | refine blk_drewN ?_ _ | refine blk_drew ?_ | refine blk_alloc ?_ _)); exact BK270.out⟩, ⟨by repeat (first | (with_reducible first | exact HB.out | apply below_alloc | apply pw_below_drewN | apply below_drew1 | refine below_set ?_ GE269.out | refine below_set ?_ GE270.out) | exact HB.out)⟩⟩
                    case rest => as_aux_lemma =>
                     clear HC75
                     try clear c1
                     try clear p1
                     try clear q1
                     try clear hx1
                     try clear qi1
                     try clear c2
                     try clear p2
                     try clear q2
                     try clear hx2
                     try clear c3
                     try clear c4
                     try clear p4
                     try clear q4
                     try clear hx4
                     try clear c5
                     try clear p5
                     try clear q5
                     try clear hx5
                     try clear c6
                     try clear p6
                     try clear q6
                     try clear hx6
                     try clear c7
                     try clear c7b0
                     try clear c7b1
                     try clear c8
                     try clear p8
                     try clear q8
                     try clear hx8
                     try clear qi8
                     try clear c9
                     try clear c9b0
                     try clear c9b1
                     try clear p10
                     try clear q10
                     try clear hx10
                     try clear qi10
                     try clear c12
                     try clear c13
                     try clear c13b0
                     try clear c14
                     try clear c14b0
                     try clear c14b1
                     try clear p15
                     try clear q15
                     try clear hx15
                     try clear qi15
                     try clear c16
                     try clear c19
                     try clear c19b0
                     try clear c19b1
                     try clear c20
                     try clear c20b0
                     try clear c20b1
                     try clear c21
                     try clear c21b0
                     try clear c21b1
                     try clear c23
                     try clear c23b0
                     try clear c24
                     try clear c24b0
                     try clear p25
                     try clear q25
                     try clear hx25
                     try clear c26
                     try clear c27
                     try clear c30
                     try clear c30b0
                     try clear c30b1
                     try clear c31
                     try clear c31b0
                     try clear c31b1
                     try clear c32
                     try clear c32b0
                     try clear c32b1
                     try clear c33
                     try clear c33b0
                     try clear c33b1
                     try clear c33b2
                     try clear c34
                     try clear c36
                     try clear c36b0
                     try clear c36b1
                     try clear c36b2
                     try clear c37
                     try clear c37b0
                     try clear c37b1
                     try clear c37b2
                     try clear c38
                     try clear c41
                     try clear c41b0
                     try clear c42
                     try clear c42b0
                     try clear p43
                     try clear q43
                     try clear hx43
                     try clear c44
                     try clear c44b0
                     try clear c44b1
                     try clear p45
                     try clear q45
                     try clear hx45
                     try clear c47
                     try clear c49
                     try clear c49b0
                     try clear c51
                     try clear c51b0
                     try clear p52
                     try clear q52
                     try clear hx52
                     try clear c53
                     try clear c53b0
                     try clear c53b1
                     try clear p54
                     try clear q54
                     try clear hx54
                     try clear c56
                     try clear c58
                     try clear c58b0
                     try clear c59
                     try clear c59b0
                     try clear p60
                     try clear q60
                     try clear hx60
                     try clear c62
                     try clear c62b0
                     try clear c62b1
                     try clear c63
                     try clear p64
                     try clear c65
                     try clear c65b0
                     try clear c65b1
                     try clear c66
                     try clear c66b0
                     try clear c66b1
                     try clear c67
                     try clear c67b0
                     try clear c67b1
                     try clear c69
                     try clear c70
                     try clear c70b0
                     try clear c70b1
                     try clear c71
                     try clear c71b0
                     try clear c71b1
                     try clear c71b2
                     try clear c72
                     try clear c72b0
                     try clear c72b1
                     try clear c73
                     try clear c73b0
                     try clear c73b1
                     try clear c73b2
                     try clear c76
                     try clear c76b0
                     try clear c76b1
                     try clear c78
                     try clear c78b0
                     try clear c79
                     try clear c79b0
                     try clear p80
                     try clear q80
                     try clear hx80
                     try clear c81
                     try clear c81b0
                     try clear c81b1
                     try clear c82
                     try clear c82b0
                     try clear c83
                     try clear c83b0
                     try clear c83b1
                     try clear hcz17_0
                     try clear hcz17_1
                     try clear hcz17_2
                     try clear hcz35_0
                     try clear hcz35_1
                     try clear hcz35_2
                     try clear hcz39_0
                     try clear hcz39_1
                     try clear hcz39_2
                     try clear hcz64_0
                     try clear hcz64_1
                     try clear hcz64_2
                     try clear hcz6_0
                     try clear hcz6_1
                     try clear hcz6_2
                     try clear hfz17_0
                     try clear hfz17_1
                     try clear hfz17_2
                     try clear hfz35_0
                     try clear hfz35_1
                     try clear hfz35_2
                     try clear hfz39_0
                     try clear hfz39_1
                     try clear hfz39_2
                     try clear hfz64_0
                     try clear hfz64_1
                     try clear hfz64_2
                     try clear hfz6_0
                     try clear hfz6_1
                     try clear hfz6_2
                     try clear p1
                     try clear p10
                     try clear p15
                     try clear p2
                     try clear p25
                     try clear p4
                     try clear p43
                     try clear p45
                     try clear p5
                     try clear p52
                     try clear p54
                     try clear p6
                     try clear p60
                     try clear p64
                     try clear p8
                     try clear p80
                     try clear q1
                     try clear q10
                     try clear q15
                     try clear q2
                     try clear q25
                     try clear q4
                     try clear q43
                     try clear q45
                     try clear q5
                     try clear q52
                     try clear q54
                     try clear q6
                     try clear q60
                     try clear q8
                     try clear q80
                     obtain ⟨kq, x13_74, x14_74, rfl, rfl, HA, HJ74, BK269, BK270, HB⟩ := hcut
                     cases kq with
                     | zero => exact absurd HA.out (by simp [r1_ReadNum.j9])
                     | succ kj74 =>
                      have H := HA.out
                      clear HA
                      simp only [r1_ReadNum.j9] at H
                      by_cases c84 : x13_74.toList = ([] : List UInt8)
                      ·rw [if_pos c84] at H
                       have c84b0 : (x13_74.toList == ([] : List UInt8)) = true := beq_iff_eq.mpr c84
                       have c84b1 : (x13_74.toList != ([] : List UInt8)) = false := bne_eq_false_iff_eq.mpr c84
                       have c84b2 : x13_74.toList.isEmpty = true := by rw [c84]; rfl
                       have c84b3 : (!x13_74.toList.isEmpty) = false := by rw [c84]; rfl
                       clear c84
                       simp only [Option.some.injEq, Prod.mk.injEq] at H
                       obtain ⟨rfl, rfl, rfl, rfl⟩ := H
                       have hnb85 := NB270_269.out
                       have hnc85 := NB269_270.out
                       have hcz86_0 : wc.cell? ⟨gb270, 0, none⟩ = some (.bool x271000_10) := (blk_cell BK270.out 0).trans rfl
                       have hcz86_1 : wc.cell? ⟨gb270, 1, none⟩ = some (.string (⟨#[]⟩ : ByteArray)) := (blk_cell BK270.out 1).trans rfl
                       have hcz86_2 : wc.cell? ⟨gb270, 2, none⟩ = some (.string (⟨#[]⟩ : ByteArray)) := (blk_cell BK270.out 2).trans rfl
                       have hfz86_0 := blk_frozen BK270.out 0
                       have hfz86_1 := blk_frozen BK270.out 1
                       have hfz86_2 := blk_frozen BK270.out 2
                       have hcz87_0 : wc.cell? ⟨gb269, 0, none⟩ = some (.bool x270000_45) := (blk_cell BK269.out 0).trans rfl
                       have hcz87_1 : wc.cell? ⟨gb269, 1, none⟩ = some (.string x270001_45) := (blk_cell BK269.out 1).trans rfl
                       have hcz87_2 : wc.cell? ⟨gb269, 2, none⟩ = some (.string x270002_45) := (blk_cell BK269.out 2).trans rfl
                       have hfz87_0 := blk_frozen BK269.out 0
                       have hfz87_1 := blk_frozen BK269.out 1
                       have hfz87_2 := blk_frozen BK269.out 2
                       go_wp2
                       refine bodyPost_ret (results_ct rfl _ _ gb269 23 #[.bool x271000_10, .string (⟨#[]⟩ : ByteArray), .string (⟨#[]⟩ : ByteArray)] (0, 0) _ rfl (by (with_reducible repeat (first | refine blk_drewN ?_ _ | refine blk_drew ?_ | refine blk_alloc ?_ _)); refine blk_put (cs := #[.bool x271000_10, .string (⟨#[]⟩ : ByteArray), .string x270002_45]) ?_ 2 _ rfl; (with_reducible repeat (first | refine blk_drewN ?_ _ | refine blk_drew ?_ | refine blk_alloc ?_ _)); refine blk_put (cs := #[.bool x271000_10, .string x270001_45, .string x270002_45]) ?_ 1 _ rfl; (with_reducible repeat (first | refine blk_drewN ?_ _ | refine blk_drew ?_ | refine blk_alloc ?_ _)); refine blk_put (cs := #[.bool x270000_45, .string x270001_45, .string x270002_45]) ?_ 0 _ rfl; (with_reducible repeat (first | refine blk_drewN ?_ _ | refine blk_drew ?_ | refine blk_alloc ?_ _)); exact BK269.out) Tryz.underlying23 rfl (by kernel_rfl)) rfl ?_
                       exact ⟨by first | rfl | (simp [errW_none, errW_some] <;> rfl) | (simp [*, errW_none, errW_some] <;> rfl), by repeat (first | (with_reducible first | exact HB.out | apply below_alloc | apply pw_below_drewN | apply below_drew1 | refine below_set ?_ GE269.out | refine below_set ?_ GE270.out) | exact HB.out)⟩
                      ·rw [if_neg c84] at H
                       have c84b0 : (x13_74.toList == ([] : List UInt8)) = false := beq_eq_false_iff_ne.mpr c84
                       have c84b1 : (x13_74.toList != ([] : List UInt8)) = true := bne_iff_ne.mpr c84
                       have c84b2 : x13_74.toList.isEmpty = false := by simpa using c84
                       have c84b3 : (!x13_74.toList.isEmpty) = true := by simpa using c84
                       replace H := Option.bind_eq_some_iff.mp H
                       obtain ⟨t276, A880, H⟩ := H
                       replace H : ((r1_Add.f kj74 x10_45 t276).bind fun bt277 => (some (x271000_10, x13_74, bt277.1, true))) = some (r1, r2, r3, r4) := H
                       have A88 := Aside0.mk A880
                       clear A880
                       replace H := Option.bind_eq_some_iff.mp H
                       obtain ⟨⟨t277, t278⟩, A890, H⟩ := H
                       replace H : (some (x271000_10, x13_74, t277, true)) = some (r1, r2, r3, r4) := H
                       have A89 := Aside0.mk A890
                       clear A890
                       simp only [Option.some.injEq, Prod.mk.injEq] at H
                       obtain ⟨rfl, rfl, rfl, rfl⟩ := H
                       have hnb90 := NB270_269.out
                       have hnc90 := NB269_270.out
                       have hcz91_0 : wc.cell? ⟨gb270, 0, none⟩ = some (.bool x271000_10) := (blk_cell BK270.out 0).trans rfl
                       have hcz91_1 : wc.cell? ⟨gb270, 1, none⟩ = some (.string (⟨#[]⟩ : ByteArray)) := (blk_cell BK270.out 1).trans rfl
                       have hcz91_2 : wc.cell? ⟨gb270, 2, none⟩ = some (.string (⟨#[]⟩ : ByteArray)) := (blk_cell BK270.out 2).trans rfl
                       have hfz91_0 := blk_frozen BK270.out 0
                       have hfz91_1 := blk_frozen BK270.out 1
                       have hfz91_2 := blk_frozen BK270.out 2
                       go_wp2_with (first | ((with_reducible refine gate_callee (f := 29) rfl ?_); refine goesL_ (some 172) rfl rfl Tryz.func29 (by kernel_rfl) rfl #[.int .i64 x14_74] rfl (by (try simp only [List.map_toArray, List.map_cons, List.map_nil]); first | done | rfl | (simp only [List.length_drop, List.length_take]; rfl)) ?_; (with_reducible refine (r1_Dec.calls kj74 x14_74 t276 _ A88.out).mono ?_); rintro e w' ⟨rfl, ⟨nd, rfl⟩⟩; refine ⟨_, rfl, ?_⟩) | ((with_reducible refine gate_callee (f := 28) rfl ?_); refine goesL_ (some 173) rfl rfl Tryz.func28 (by kernel_rfl) rfl #[.string x10_45, .string t276] rfl (by (try simp only [List.map_toArray, List.map_cons, List.map_nil]); first | done | rfl | (simp only [List.length_drop, List.length_take]; rfl)) ?_; (with_reducible refine (r1_Add.calls kj74 x10_45 t276 t277 t278 _ A89.out).mono ?_); rintro e w92 ⟨rfl, hb⟩; refine ⟨_, rfl, ?_⟩; have n0_ := Aside0.mk (blk_below (g := gb269) (o := .cells #[.bool x270000_45, .string x270001_45, .string x270002_45] 23 (0, 0)) (by (with_reducible repeat (first | refine blk_drewN ?_ _ | refine blk_drew ?_ | refine blk_alloc ?_ _)); refine blk_far ?_ NB269_270.out _; (with_reducible repeat (first | refine blk_drewN ?_ _ | refine blk_drew ?_ | refine blk_alloc ?_ _)); exact BK269.out) hb); have n1_ := Aside0.mk (blk_below (g := gb270) (o := .cells #[.bool x271000_10, .string x13_74, .string (⟨#[]⟩ : ByteArray)] 23 (0, 0)) (by (with_reducible repeat (first | refine blk_drewN ?_ _ | refine blk_drew ?_ | refine blk_alloc ?_ _)); refine blk_put (cs := #[.bool x271000_10, .string (⟨#[]⟩ : ByteArray), .string (⟨#[]⟩ : ByteArray)]) ?_ 1 _ rfl; (with_reducible repeat (first | refine blk_drewN ?_ _ | refine blk_drew ?_ | refine blk_alloc ?_ _)); exact BK270.out) hb); have n2_ := Aside0.mk (below_step (by repeat (first | (with_reducible first | exact HB.out | apply below_alloc | apply pw_below_drewN | apply below_drew1 | refine below_set ?_ GE269.out | refine below_set ?_ GE270.out) | exact HB.out)) hb); clear BK269; clear BK270; clear HB; have BK269 := n0_; have BK270 := n1_; have HB := n2_; clear n0_ n1_ n2_; (try clear hb); (try clear hb2); (try clear hk); (try clear hi); have hcz93_0 : w92.cell? ⟨gb270, 0, none⟩ = some (.bool x271000_10) := (blk_cell BK270.out 0).trans rfl; have hcz93_1 : w92.cell? ⟨gb270, 1, none⟩ = some (.string x13_74) := (blk_cell BK270.out 1).trans rfl; have hcz93_2 : w92.cell? ⟨gb270, 2, none⟩ = some (.string (⟨#[]⟩ : ByteArray)) := (blk_cell BK270.out 2).trans rfl; have hfz93_0 := blk_frozen BK270.out 0; have hfz93_1 := blk_frozen BK270.out 1; have hfz93_2 := blk_frozen BK270.out 2; have hcz94_0 : w92.cell? ⟨gb269, 0, none⟩ = some (.bool x270000_45) := (blk_cell BK269.out 0).trans rfl; have hcz94_1 : w92.cell? ⟨gb269, 1, none⟩ = some (.string x270001_45) := (blk_cell BK269.out 1).trans rfl; have hcz94_2 : w92.cell? ⟨gb269, 2, none⟩ = some (.string x270002_45) := (blk_cell BK269.out 2).trans rfl; have hfz94_0 := blk_frozen BK269.out 0; have hfz94_1 := blk_frozen BK269.out 1; have hfz94_2 := blk_frozen BK269.out 2))
                       refine bodyPost_ret (results_ct rfl _ _ gb269 23 #[.bool x271000_10, .string x13_74, .string t277] (0, 0) _ rfl (by (with_reducible repeat (first | refine blk_drewN ?_ _ | refine blk_drew ?_ | refine blk_alloc ?_ _)); refine blk_put (cs := #[.bool x271000_10, .string x13_74, .string x270002_45]) ?_ 2 _ rfl; (with_reducible repeat (first | refine blk_drewN ?_ _ | refine blk_drew ?_ | refine blk_alloc ?_ _)); refine blk_put (cs := #[.bool x271000_10, .string x270001_45, .string x270002_45]) ?_ 1 _ rfl; (with_reducible repeat (first | refine blk_drewN ?_ _ | refine blk_drew ?_ | refine blk_alloc ?_ _)); refine blk_put (cs := #[.bool x270000_45, .string x270001_45, .string x270002_45]) ?_ 0 _ rfl; (with_reducible repeat (first | refine blk_drewN ?_ _ | refine blk_drew ?_ | refine blk_alloc ?_ _)); refine blk_far ?_ NB269_270.out _; (with_reducible repeat (first | refine blk_drewN ?_ _ | refine blk_drew ?_ | refine blk_alloc ?_ _)); exact BK269.out) Tryz.underlying23 rfl (by kernel_rfl)) rfl ?_
                       exact ⟨by first | rfl | (simp [errW_none, errW_some] <;> rfl) | (simp [*, errW_none, errW_some] <;> rfl), by repeat (first | (with_reducible first | exact HB.out | apply below_alloc | apply pw_below_drewN | apply below_drew1 | refine below_set ?_ GE269.out | refine below_set ?_ GE270.out) | exact HB.out)⟩
                   ·rw [if_neg c73] at H
                    exact absurd H (by simp)
                  ·rw [if_neg c72] at H
                   have c72b0 : (x6_45 == (a0.size : Int)) = false := beq_eq_false_iff_ne.mpr c72
                   have c72b1 : (x6_45 != (a0.size : Int)) = true := bne_iff_ne.mpr c72
                   simp only [Option.some.injEq, Prod.mk.injEq] at H
                   obtain ⟨rfl, rfl, rfl, rfl⟩ := H
                   have hnb95 := NB269_270.out
                   have hnc95 := NB270_269.out
                   have hcz96_0 : wc.cell? ⟨gb269, 0, none⟩ = some (.bool x270000_45) := (blk_cell BK269.out 0).trans rfl
                   have hcz96_1 : wc.cell? ⟨gb269, 1, none⟩ = some (.string x270001_45) := (blk_cell BK269.out 1).trans rfl
                   have hcz96_2 : wc.cell? ⟨gb269, 2, none⟩ = some (.string x270002_45) := (blk_cell BK269.out 2).trans rfl
                   have hfz96_0 := blk_frozen BK269.out 0
                   have hfz96_1 := blk_frozen BK269.out 1
                   have hfz96_2 := blk_frozen BK269.out 2
                   go_wp2
                   refine bodyPost_ret (results_ct rfl _ _ gb269 23 #[.bool false, .string (⟨#[]⟩ : ByteArray), .string (⟨#[]⟩ : ByteArray)] (0, 0) _ rfl (by (with_reducible repeat (first | refine blk_drewN ?_ _ | refine blk_drew ?_ | refine blk_alloc ?_ _)); refine blk_put (cs := #[.bool false, .string (⟨#[]⟩ : ByteArray), .string x270002_45]) ?_ 2 _ rfl; (with_reducible repeat (first | refine blk_drewN ?_ _ | refine blk_drew ?_ | refine blk_alloc ?_ _)); refine blk_put (cs := #[.bool false, .string x270001_45, .string x270002_45]) ?_ 1 _ rfl; (with_reducible repeat (first | refine blk_drewN ?_ _ | refine blk_drew ?_ | refine blk_alloc ?_ _)); refine blk_put (cs := #[.bool x270000_45, .string x270001_45, .string x270002_45]) ?_ 0 _ rfl; (with_reducible repeat (first | refine blk_drewN ?_ _ | refine blk_drew ?_ | refine blk_alloc ?_ _)); exact BK269.out) Tryz.underlying23 rfl (by kernel_rfl)) rfl ?_
                   exact ⟨by first | rfl | (simp [errW_none, errW_some] <;> rfl) | (simp [*, errW_none, errW_some] <;> rfl), by repeat (first | (with_reducible first | exact HB.out | apply below_alloc | apply pw_below_drewN | apply below_drew1 | refine below_set ?_ GE269.out | refine below_set ?_ GE270.out) | exact HB.out)⟩
            ·rw [if_neg c36] at H
             exact absurd H (by simp)
       ·rw [if_neg c21] at H
        exact absurd H (by simp)
      ·rw [if_neg c20] at H
       exact absurd H (by simp)
     ·rw [if_neg c19] at H
      exact absurd H (by simp)
end Go.Proofs.YthimiidnbnlemaaGreatDoor.P
