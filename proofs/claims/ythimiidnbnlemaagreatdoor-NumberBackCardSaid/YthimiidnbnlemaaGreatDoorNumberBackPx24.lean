-- printed by xprint.py (a program of this session's, over the kit's print); Lean checks it
import Derived.Test.YthimiidnbnlemaaGreatDoorNumberBackPx0
import Derived.Test.YthimiidnbnlemaaGreatDoorNumberBackPx1
import Derived.Test.YthimiidnbnlemaaGreatDoorNumberBackPx8
import Derived.Test.YthimiidnbnlemaaGreatDoorNumberBackPx11
import Derived.Test.YthimiidnbnlemaaGreatDoorNumberBackPx12
import Derived.Test.YthimiidnbnlemaaGreatDoorNumberBackPx19
namespace Go.Proofs.YthimiidnbnlemaaGreatDoor.P
open Go.RowKit Go.Proofs.YthimiidnbnlemaaGreatDoorW.PrintWords Go.Proofs.YthimiidnbnlemaaGreatDoorW.PrintLast Go.Proofs.YthimiidnbnlemaaGreatDoorW.PrintMore Go.Proofs.YthimiidnbnlemaaGreatDoorX
attribute [local go_sem] max2_int min2_int max_two min_two max_three min_three max_four min_four   -- for this text's walks alone
set_option linter.unusedVariables false
set_option linter.unusedSimpArgs false
attribute [local go_sem high] eqA23
mutual
def abridgerlaw5_NumberBack.j0 : Nat → Bool → Bool → Bool → ByteArray → ByteArray → Option (Bool)
 | 0, _, _, _, _, _ => none
 | k + 1, x3, x29, x344000, x344001, x344002 => if x29 = true then (some x3) else ((number_Plain.f k x344000 x344001 x344002).bind fun t346 => ((number_Short.f k x344000 x344001 x344002).bind fun t349 => (abridgerlaw5_NumberBack.l0 k t346 t349 false 0 x344000 x344001 x344002)))
def abridgerlaw5_NumberBack.l0 : Nat → List ByteArray → ByteArray → Bool → Int → Bool → ByteArray → ByteArray → Option (Bool)
 | 0, _, _, _, _, _, _, _ => none
 | k + 1, x4, x5, x6, x7, x344000, x344001, x344002 => if x7 < (x4.length : Int) then (if 0 ≤ x7 then ((number_Read.f k (rdOf ByteArray.empty x4 x7)).bind fun bt351 => (if bt351.2.2.2 = true then (if (!(bt351.1 == x344000) || (!(bt351.2.1.toList == x344001.toList) || (!(bt351.2.2.1.toList == x344002.toList)))) = true then (some false) else (if (x5.size : Int) > ((rdOf ByteArray.empty x4 x7).size : Int) then (some false) else (if x6 = true then (abridgerlaw5_NumberBack.l0 k x4 x5 true (wrap64 (x7 + 1)) x344000 x344001 x344002) else (abridgerlaw5_NumberBack.l0 k x4 x5 ((rdOf ByteArray.empty x4 x7).toList == x5.toList) (wrap64 (x7 + 1)) x344000 x344001 x344002)))) else (some false))) else (none)) else (some x6)
end
def abridgerlaw5_NumberBack.f (k : Nat) (a0_0 : Bool) (a0_1 : ByteArray) (a0_2 : ByteArray) : Option (Bool) := (abridgerlaw5_alive.f k).bind fun t344 => (if t344 = true then (if (a0_1.size : Int) > 200 then (abridgerlaw5_NumberBack.j0 k t344 true a0_0 a0_1 a0_2) else (if (a0_2.size : Int) > 100 then (abridgerlaw5_NumberBack.j0 k t344 true a0_0 a0_1 a0_2) else ((abridgerref1_RightNum.f k a0_0 a0_1 a0_2).bind fun t345 => (abridgerlaw5_NumberBack.j0 k t344 (!t345) a0_0 a0_1 a0_2)))) else (abridgerlaw5_NumberBack.j0 k t344 true a0_0 a0_1 a0_2))
theorem abridgerlaw5_NumberBack.mono_l : ∀ k, (∀ y0 y1 y2 y3 y4, LeO (abridgerlaw5_NumberBack.j0 k y0 y1 y2 y3 y4) (abridgerlaw5_NumberBack.j0 (k + 1) y0 y1 y2 y3 y4)) ∧ (∀ y0 y1 y2 y3 y4 y5 y6, LeO (abridgerlaw5_NumberBack.l0 k y0 y1 y2 y3 y4 y5 y6) (abridgerlaw5_NumberBack.l0 (k + 1) y0 y1 y2 y3 y4 y5 y6))
 | 0 => ⟨fun _ _ _ _ _ r h => by simp [abridgerlaw5_NumberBack.j0] at h, fun _ _ _ _ _ _ _ r h => by simp [abridgerlaw5_NumberBack.l0] at h⟩
 | k + 1 => by
  obtain ⟨ih0, ih1⟩ := abridgerlaw5_NumberBack.mono_l k
  refine ⟨?_, ?_⟩
  ·intro y0 y1 y2 y3 y4
   unfold abridgerlaw5_NumberBack.j0
   repeat' first
   | (with_reducible exact ih0 _ _ _ _ _)
   | (with_reducible exact ih1 _ _ _ _ _ _ _)
   | (with_reducible exact abridgerlaw5_alive.mono _)
   | (with_reducible exact abridgerref1_RightNum.mono _ _ _ _)
   | (with_reducible exact number_Plain.mono _ _ _ _)
   | (with_reducible exact number_Read.mono _ _)
   | (with_reducible exact number_Short.mono _ _ _ _)
   | (with_reducible exact LeO.refl _)
   | (with_reducible exact LeO.none _)
   | (with_reducible refine LeO.ite ?_ ?_)
   | (with_reducible refine LeO.bind ?_ (fun _ => ?_))
   | exact ih0 _ _ _ _ _
   | exact ih1 _ _ _ _ _ _ _
   | exact abridgerlaw5_alive.mono _
   | exact abridgerref1_RightNum.mono _ _ _ _
   | exact number_Plain.mono _ _ _ _
   | exact number_Read.mono _ _
   | exact number_Short.mono _ _ _ _
   | exact LeO.none _
   | refine LeO.ite ?_ ?_
   | refine LeO.bind ?_ (fun _ => ?_)
  ·intro y0 y1 y2 y3 y4 y5 y6
   unfold abridgerlaw5_NumberBack.l0
   repeat' first
   | (with_reducible exact ih0 _ _ _ _ _)
   | (with_reducible exact ih1 _ _ _ _ _ _ _)
   | (with_reducible exact abridgerlaw5_alive.mono _)
   | (with_reducible exact abridgerref1_RightNum.mono _ _ _ _)
   | (with_reducible exact number_Plain.mono _ _ _ _)
   | (with_reducible exact number_Read.mono _ _)
   | (with_reducible exact number_Short.mono _ _ _ _)
   | (with_reducible exact LeO.refl _)
   | (with_reducible exact LeO.none _)
   | (with_reducible refine LeO.ite ?_ ?_)
   | (with_reducible refine LeO.bind ?_ (fun _ => ?_))
   | exact ih0 _ _ _ _ _
   | exact ih1 _ _ _ _ _ _ _
   | exact abridgerlaw5_alive.mono _
   | exact abridgerref1_RightNum.mono _ _ _ _
   | exact number_Plain.mono _ _ _ _
   | exact number_Read.mono _ _
   | exact number_Short.mono _ _ _ _
   | exact LeO.none _
   | refine LeO.ite ?_ ?_
   | refine LeO.bind ?_ (fun _ => ?_)
theorem abridgerlaw5_NumberBack.mono : ∀ a0 a1 a2 k, LeO (abridgerlaw5_NumberBack.f k a0 a1 a2) (abridgerlaw5_NumberBack.f (k + 1) a0 a1 a2) := by
 intro a0 a1 a2 k
 obtain ⟨ih0, ih1⟩ := abridgerlaw5_NumberBack.mono_l k
 unfold abridgerlaw5_NumberBack.f
 repeat' first
   | (with_reducible exact ih0 _ _ _ _ _)
   | (with_reducible exact ih1 _ _ _ _ _ _ _)
   | (with_reducible exact abridgerlaw5_alive.mono _)
   | (with_reducible exact abridgerref1_RightNum.mono _ _ _ _)
   | (with_reducible exact number_Plain.mono _ _ _ _)
   | (with_reducible exact number_Read.mono _ _)
   | (with_reducible exact number_Short.mono _ _ _ _)
   | (with_reducible exact LeO.refl _)
   | (with_reducible exact LeO.none _)
   | (with_reducible refine LeO.ite ?_ ?_)
   | (with_reducible refine LeO.bind ?_ (fun _ => ?_))
   | exact ih0 _ _ _ _ _
   | exact ih1 _ _ _ _ _ _ _
   | exact abridgerlaw5_alive.mono _
   | exact abridgerref1_RightNum.mono _ _ _ _
   | exact number_Plain.mono _ _ _ _
   | exact number_Read.mono _ _
   | exact number_Short.mono _ _ _ _
   | exact LeO.none _
   | refine LeO.ite ?_ ?_
   | refine LeO.bind ?_ (fun _ => ?_)
set_option maxHeartbeats 8000000 in
set_option maxRecDepth 100000 in
theorem abridgerlaw5_NumberBack.calls (k : Nat) (a0_0 : Bool) (a0_1 : ByteArray) (a0_2 : ByteArray) (r : Bool) (w : World) (hL : LaidW w) (h : abridgerlaw5_NumberBack.f k a0_0 a0_1 a0_2 = some r) :
  Calls Tryz.prog 4 #[.agg #[.bool a0_0, .string a0_1, .string a0_2]] w fun e w' => e = .returned (.bool r) ∧ Below w.heap.size w w' := by
 have hu23 := Tryz.underlying23
 have HB := Aside0.mk (Below.refl w.heap.size w)
 have H : ((abridgerlaw5_alive.f k).bind fun t344 => (if t344 = true then (if (a0_1.size : Int) > 200 then (abridgerlaw5_NumberBack.j0 k t344 true a0_0 a0_1 a0_2) else (if (a0_2.size : Int) > 100 then (abridgerlaw5_NumberBack.j0 k t344 true a0_0 a0_1 a0_2) else ((abridgerref1_RightNum.f k a0_0 a0_1 a0_2).bind fun t345 => (abridgerlaw5_NumberBack.j0 k t344 (!t345) a0_0 a0_1 a0_2)))) else (abridgerlaw5_NumberBack.j0 k t344 true a0_0 a0_1 a0_2))) = some r := h
 clear h
 replace H := Option.bind_eq_some_iff.mp H
 obtain ⟨t344, A20, H⟩ := H
 replace H : (if t344 = true then (if (a0_1.size : Int) > 200 then (abridgerlaw5_NumberBack.j0 k t344 true a0_0 a0_1 a0_2) else (if (a0_2.size : Int) > 100 then (abridgerlaw5_NumberBack.j0 k t344 true a0_0 a0_1 a0_2) else ((abridgerref1_RightNum.f k a0_0 a0_1 a0_2).bind fun t345 => (abridgerlaw5_NumberBack.j0 k t344 (!t345) a0_0 a0_1 a0_2)))) else (abridgerlaw5_NumberBack.j0 k t344 true a0_0 a0_1 a0_2)) = some r := H
 have A2 := Aside0.mk A20
 clear A20
 have HC3 := Aside0.mk H
 clear H
 go_enter Tryz.func4, Tryz.ntmps4
 go_upto_region 2 with (first | ((with_reducible refine gate_dst (N := 1) rfl ?_); (try (refine gate_guard (by rfl) ?_; dsimp only)); refine box_event ?hg (N := 1) ?hd (cs := #[.bool a0_0, .string a0_1, .string a0_2]) (t := 23) ?hr ?_; (case hd => rfl); (case hg => rfl); (case hr => first | (go_simp; done) | (go_simp; rfl)); intro gb343 hg w4 hbox hb; have n0_ := Aside0.mk (below_step (by repeat (first | (with_reducible first | exact HB.out | apply below_alloc | apply pw_below_drewN | apply below_drew1) | exact HB.out)) hb); have n1_ := Aside0.mk (hbox); have n2_ := Aside0.mk ((by rw [hg]; exact (below_size (by repeat (first | (with_reducible first | exact HB.out | apply below_alloc | apply pw_below_drewN | apply below_drew1) | exact HB.out))) : w.heap.size ≤ gb343)); have n3_ := Aside0.mk ((by rw [hg]; exact (below_size (by repeat (first | (with_reducible first | exact HB.out | apply below_alloc | apply pw_below_drewN | apply below_drew1) | exact HB.out))) : w.heap.size ≤ gb343)); clear HB; have HB := n0_; have BK343 := n1_; have GW343 := n2_; have GE343 := n3_; clear n0_ n1_ n2_ n3_; clear hb hbox hg) | ((with_reducible refine gate_callee (f := 7) rfl ?_); refine goesL_ (some 10) rfl rfl Tryz.func7 (by kernel_rfl) rfl #[] rfl (by (try simp only [List.map_toArray, List.map_cons, List.map_nil]); first | done | rfl | (simp only [List.length_drop, List.length_take]; rfl)) ?_; (with_reducible refine (abridgerlaw5_alive.calls k  t344 _ ?side1 A2.out).mono ?_); (case side1 => first | exact hL | exact LaidW.below hL (by repeat (first | (with_reducible first | exact HB.out | apply below_alloc | apply pw_below_drewN | apply below_drew1 | refine below_set ?_ GE343.out) | exact HB.out)) | (repeat (first | exact hL | apply LaidW.drewN | apply LaidW.drew))); rintro e w5 ⟨rfl, hb⟩; refine ⟨_, rfl, ?_⟩; have n0_ := Aside0.mk (blk_below (g := gb343) (o := .cells #[.bool a0_0, .string a0_1, .string a0_2] 23 (0, 0)) (by (with_reducible repeat (first | refine blk_drewN ?_ _ | refine blk_drew ?_ | refine blk_alloc ?_ _)); exact BK343.out) hb); have n1_ := Aside0.mk (below_step (by repeat (first | (with_reducible first | exact HB.out | apply below_alloc | apply pw_below_drewN | apply below_drew1 | refine below_set ?_ GE343.out) | exact HB.out)) hb); clear BK343; clear HB; have BK343 := n0_; have HB := n1_; clear n0_ n1_; (try clear hb); (try clear hb2); (try clear hk); (try clear hi)))
 (try simp only [Act.put, List.setIfInBounds_toArray, List.set_cons_zero, List.set_cons_succ])
 go_cut [29] (fun v29 wc => ∃ (kq : Nat) (x29_2 : Bool), v29 = .bool x29_2 ∧ Aside0 (abridgerlaw5_NumberBack.j0 kq t344 x29_2 a0_0 a0_1 a0_2 = some r) ∧ Aside0 (kq ≤ k) ∧ Aside0 (wc.heap[gb343]? = some (.cells #[.bool a0_0, .string a0_1, .string a0_2] 23 (0, 0))) ∧ Aside0 (Below w.heap.size w wc))
 case first =>
  have H := HC3.out
  clear HC3
  by_cases c6 : t344 = true
  ·subst c6
   have H1 : (if (a0_1.size : Int) > 200 then (abridgerlaw5_NumberBack.j0 k true true a0_0 a0_1 a0_2) else (if (a0_2.size : Int) > 100 then (abridgerlaw5_NumberBack.j0 k true true a0_0 a0_1 a0_2) else ((abridgerref1_RightNum.f k a0_0 a0_1 a0_2).bind fun t345 => (abridgerlaw5_NumberBack.j0 k true (!t345) a0_0 a0_1 a0_2)))) = some r := by rw [if_pos rfl] at H; exact H
   clear H
   have H := H1
   clear H1
   by_cases c7 : (a0_1.size : Int) > 200
   ·rw [if_pos c7] at H
    have c7b0 : decide (200 < (a0_1.size : Int)) = true := decide_eq_true c7
    have c7b1 : decide (200 < a0_1.size) = true := decide_eq_true (by omega)
    clear c7
    (first | rw [c7b0] | (simp only [i64_w, i32_w]; rw [c7b0]) | skip)
    have H' := Aside0.mk H
    clear H
    have hcz8_0 : w5.cell? ⟨gb343, 0, none⟩ = some (.bool a0_0) := (blk_cell BK343.out 0).trans rfl
    have hcz8_1 : w5.cell? ⟨gb343, 1, none⟩ = some (.string a0_1) := (blk_cell BK343.out 1).trans rfl
    have hcz8_2 : w5.cell? ⟨gb343, 2, none⟩ = some (.string a0_2) := (blk_cell BK343.out 2).trans rfl
    have hfz8_0 := blk_frozen BK343.out 0
    have hfz8_1 := blk_frozen BK343.out 1
    have hfz8_2 := blk_frozen BK343.out 2
    go_wp2
    go_meet
    case rel => exact ⟨_, (true), (by first | rfl | (simp; done) | (simp [bne_nil_]; done) | (simp [*]; done) | (simp [wrap64]; done) | (refine congrArg (Value.int .i64) ?_; unfold wrap64; omega)), H', ⟨by first | omega | exact Nat.le_refl _⟩, ⟨by (with_reducible repeat (first | refine blk_drewN ?_ _ | refine blk_drew ?_ | refine blk_alloc ?_ _)); exact BK343.out⟩, ⟨by repeat (first | (with_reducible first | exact HB.out | apply below_alloc | apply pw_below_drewN | apply below_drew1 | refine below_set ?_ GE343.out) | exact HB.out)⟩⟩
   ·rw [if_neg c7] at H
    have c7b0 : decide (200 < (a0_1.size : Int)) = false := decide_eq_false c7
    have c7b1 : decide (200 < a0_1.size) = false := decide_eq_false (by omega)
    clear c7
    (first | rw [c7b0] | (simp only [i64_w, i32_w]; rw [c7b0]) | skip)
    by_cases c9 : (a0_2.size : Int) > 100
    ·rw [if_pos c9] at H
     have c9b0 : decide (100 < (a0_2.size : Int)) = true := decide_eq_true c9
     have c9b1 : decide (100 < a0_2.size) = true := decide_eq_true (by omega)
     clear c9
     have H' := Aside0.mk H
     clear H
     have hcz10_0 : w5.cell? ⟨gb343, 0, none⟩ = some (.bool a0_0) := (blk_cell BK343.out 0).trans rfl
     have hcz10_1 : w5.cell? ⟨gb343, 1, none⟩ = some (.string a0_1) := (blk_cell BK343.out 1).trans rfl
     have hcz10_2 : w5.cell? ⟨gb343, 2, none⟩ = some (.string a0_2) := (blk_cell BK343.out 2).trans rfl
     have hfz10_0 := blk_frozen BK343.out 0
     have hfz10_1 := blk_frozen BK343.out 1
     have hfz10_2 := blk_frozen BK343.out 2
     go_wp2
     go_meet
     case rel => exact ⟨_, (true), (by first | rfl | (simp; done) | (simp [bne_nil_]; done) | (simp [*]; done) | (simp [wrap64]; done) | (refine congrArg (Value.int .i64) ?_; unfold wrap64; omega)), H', ⟨by first | omega | exact Nat.le_refl _⟩, ⟨by (with_reducible repeat (first | refine blk_drewN ?_ _ | refine blk_drew ?_ | refine blk_alloc ?_ _)); exact BK343.out⟩, ⟨by repeat (first | (with_reducible first | exact HB.out | apply below_alloc | apply pw_below_drewN | apply below_drew1 | refine below_set ?_ GE343.out) | exact HB.out)⟩⟩
    ·rw [if_neg c9] at H
     have c9b0 : decide (100 < (a0_2.size : Int)) = false := decide_eq_false c9
     have c9b1 : decide (100 < a0_2.size) = false := decide_eq_false (by omega)
     clear c9
     replace H := Option.bind_eq_some_iff.mp H
     obtain ⟨t345, A110, H⟩ := H
     replace H : (abridgerlaw5_NumberBack.j0 k true (!t345) a0_0 a0_1 a0_2) = some r := H
     have A11 := Aside0.mk A110
     clear A110
     have H' := Aside0.mk H
     clear H
     have hcz12_0 : w5.cell? ⟨gb343, 0, none⟩ = some (.bool a0_0) := (blk_cell BK343.out 0).trans rfl
     have hcz12_1 : w5.cell? ⟨gb343, 1, none⟩ = some (.string a0_1) := (blk_cell BK343.out 1).trans rfl
     have hcz12_2 : w5.cell? ⟨gb343, 2, none⟩ = some (.string a0_2) := (blk_cell BK343.out 2).trans rfl
     have hfz12_0 := blk_frozen BK343.out 0
     have hfz12_1 := blk_frozen BK343.out 1
     have hfz12_2 := blk_frozen BK343.out 2
     go_wp2_with (first | (go_at_call 11; (with_reducible refine (abridgerref1_RightNum.calls k a0_0 a0_1 a0_2 t345 _ A11.out).mono ?_); rintro e w13 ⟨rfl, hb⟩; have n0_ := Aside0.mk (blk_below (g := gb343) (o := .cells #[.bool a0_0, .string a0_1, .string a0_2] 23 (0, 0)) (by (with_reducible repeat (first | refine blk_drewN ?_ _ | refine blk_drew ?_ | refine blk_alloc ?_ _)); exact BK343.out) hb); have n1_ := Aside0.mk (below_step (by repeat (first | (with_reducible first | exact HB.out | apply below_alloc | apply pw_below_drewN | apply below_drew1 | refine below_set ?_ GE343.out) | exact HB.out)) hb); clear BK343; clear HB; have BK343 := n0_; have HB := n1_; clear n0_ n1_; (try clear hb); (try clear hb2); (try clear hk); (try clear hi)))
     go_meet
     case rel => exact ⟨_, (!t345), (by first | rfl | (simp; done) | (simp [bne_nil_]; done) | (simp [*]; done) | (simp [wrap64]; done) | (refine congrArg (Value.int .i64) ?_; unfold wrap64; omega)), H', ⟨by first | omega | exact Nat.le_refl _⟩, ⟨by (with_reducible repeat (first | refine blk_drewN ?_ _ | refine blk_drew ?_ | refine blk_alloc ?_ _)); exact BK343.out⟩, ⟨by repeat (first | (with_reducible first | exact HB.out | apply below_alloc | apply pw_below_drewN | apply below_drew1 | refine below_set ?_ GE343.out) | exact HB.out)⟩⟩
  ·replace c6 := Bool.eq_false_iff.mpr c6
   subst c6
   have H1 : (abridgerlaw5_NumberBack.j0 k false true a0_0 a0_1 a0_2) = some r := by rw [if_neg (show ¬ (false = true) by decide)] at H; exact H
   clear H
   have H := H1
   clear H1
   have H' := Aside0.mk H
   clear H
   go_wp2
   go_meet
   case rel => exact ⟨_, (true), (by first | rfl | (simp; done) | (simp [bne_nil_]; done) | (simp [*]; done) | (simp [wrap64]; done) | (refine congrArg (Value.int .i64) ?_; unfold wrap64; omega)), H', ⟨by first | omega | exact Nat.le_refl _⟩, ⟨by (with_reducible repeat (first | refine blk_drewN ?_ _ | refine blk_drew ?_ | refine blk_alloc ?_ _)); exact BK343.out⟩, ⟨by repeat (first | (with_reducible first | exact HB.out | apply below_alloc | apply pw_below_drewN | apply below_drew1 | refine below_set ?_ GE343.out) | exact HB.out)⟩⟩
 case rest =>
  clear HC3
  try clear p2
  try clear c4
  try clear c6
  try clear p6
  try clear c7
  try clear c7b0
  try clear c7b1
  try clear c9
  try clear c9b0
  try clear c9b1
  try clear hcz10_0
  try clear hcz10_1
  try clear hcz10_2
  try clear hcz12_0
  try clear hcz12_1
  try clear hcz12_2
  try clear hcz8_0
  try clear hcz8_1
  try clear hcz8_2
  try clear hfz10_0
  try clear hfz10_1
  try clear hfz10_2
  try clear hfz12_0
  try clear hfz12_1
  try clear hfz12_2
  try clear hfz8_0
  try clear hfz8_1
  try clear hfz8_2
  obtain ⟨kq, x29_2, rfl, HA, HJ2, BK343, HB⟩ := hcut
  cases kq with
  | zero => exact absurd HA.out (by simp [abridgerlaw5_NumberBack.j0])
  | succ kj2 =>
   have H := HA.out
   clear HA
   simp only [abridgerlaw5_NumberBack.j0] at H
   by_cases c14 : x29_2 = true
   ·subst c14
    have H1 : (some t344) = some r := by rw [if_pos rfl] at H; exact H
    clear H
    have H := H1
    clear H1
    obtain rfl := Option.some.inj H
    go_wp2
    go_ret
    exact ⟨by first | rfl | (simp [errW_none, errW_some] <;> rfl) | (simp [*, errW_none, errW_some] <;> rfl), by repeat (first | (with_reducible first | exact HB.out | apply below_alloc | apply pw_below_drewN | apply below_drew1 | refine below_set ?_ GE343.out) | exact HB.out)⟩
   ·replace c14 := Bool.eq_false_iff.mpr c14
    subst c14
    have H1 : ((number_Plain.f kj2 a0_0 a0_1 a0_2).bind fun t346 => ((number_Short.f kj2 a0_0 a0_1 a0_2).bind fun t349 => (abridgerlaw5_NumberBack.l0 kj2 t346 t349 false 0 a0_0 a0_1 a0_2))) = some r := by rw [if_neg (show ¬ (false = true) by decide)] at H; exact H
    clear H
    have H := H1
    clear H1
    replace H := Option.bind_eq_some_iff.mp H
    obtain ⟨t346, A150, H⟩ := H
    replace H : ((number_Short.f kj2 a0_0 a0_1 a0_2).bind fun t349 => (abridgerlaw5_NumberBack.l0 kj2 t346 t349 false 0 a0_0 a0_1 a0_2)) = some r := H
    have A15 := Aside0.mk A150
    clear A150
    replace H := Option.bind_eq_some_iff.mp H
    obtain ⟨t349, A160, H⟩ := H
    replace H : (abridgerlaw5_NumberBack.l0 kj2 t346 t349 false 0 a0_0 a0_1 a0_2) = some r := H
    have A16 := Aside0.mk A160
    clear A160
    have H' := Aside0.mk H
    clear H
    have hcz17_0 : wc.cell? ⟨gb343, 0, none⟩ = some (.bool a0_0) := (blk_cell BK343.out 0).trans rfl
    have hcz17_1 : wc.cell? ⟨gb343, 1, none⟩ = some (.string a0_1) := (blk_cell BK343.out 1).trans rfl
    have hcz17_2 : wc.cell? ⟨gb343, 2, none⟩ = some (.string a0_2) := (blk_cell BK343.out 2).trans rfl
    have hfz17_0 := blk_frozen BK343.out 0
    have hfz17_1 := blk_frozen BK343.out 1
    have hfz17_2 := blk_frozen BK343.out 2
    go_wp2_with (first | ((with_reducible refine gate_callee (f := 13) rfl ?_); refine goesL_ (some 32) rfl rfl Tryz.func13 (by kernel_rfl) rfl #[.agg #[.bool a0_0, .string a0_1, .string a0_2]] rfl (by (try simp only [List.map_toArray, List.map_cons, List.map_nil]); first | done | rfl | (simp only [List.length_drop, List.length_take]; rfl)) ?_; (with_reducible refine (number_Plain.calls kj2 a0_0 a0_1 a0_2 t346 _ ?side1 A15.out).mono ?_); (case side1 => first | exact hL | exact LaidW.below hL (by repeat (first | (with_reducible first | exact HB.out | apply below_alloc | apply pw_below_drewN | apply below_drew1 | refine below_set ?_ GE343.out) | exact HB.out)) | (repeat (first | exact hL | apply LaidW.drewN | apply LaidW.drew))); rintro e w18 ⟨v347, rfl, ho0, hb⟩; refine ⟨_, rfl, ?_⟩; have n0_ := Aside0.mk (Kd.R_lower ho0 (below_size (by repeat (first | (with_reducible first | exact HB.out | apply below_alloc | apply pw_below_drewN | apply below_drew1 | refine below_set ?_ GE343.out) | exact HB.out)))); have n1_ := Aside0.mk (blk_below (g := gb343) (o := .cells #[.bool a0_0, .string a0_1, .string a0_2] 23 (0, 0)) (by (with_reducible repeat (first | refine blk_drewN ?_ _ | refine blk_drew ?_ | refine blk_alloc ?_ _)); exact BK343.out) hb); have n2_ := Aside0.mk (below_step (by repeat (first | (with_reducible first | exact HB.out | apply below_alloc | apply pw_below_drewN | apply below_drew1 | refine below_set ?_ GE343.out) | exact HB.out)) hb); clear BK343; clear HB; have HO348 := n0_; have BK343 := n1_; have HB := n2_; clear n0_ n1_ n2_; (try clear hb); (try clear hb2); (try clear hk); (try clear hi); (try clear ho0); have hcz19_0 : w18.cell? ⟨gb343, 0, none⟩ = some (.bool a0_0) := (blk_cell BK343.out 0).trans rfl; have hcz19_1 : w18.cell? ⟨gb343, 1, none⟩ = some (.string a0_1) := (blk_cell BK343.out 1).trans rfl; have hcz19_2 : w18.cell? ⟨gb343, 2, none⟩ = some (.string a0_2) := (blk_cell BK343.out 2).trans rfl; have hfz19_0 := blk_frozen BK343.out 0; have hfz19_1 := blk_frozen BK343.out 1; have hfz19_2 := blk_frozen BK343.out 2) | ((with_reducible refine gate_callee (f := 15) rfl ?_); refine goesL_ (some 34) rfl rfl Tryz.func15 (by kernel_rfl) rfl #[.agg #[.bool a0_0, .string a0_1, .string a0_2]] rfl (by (try simp only [List.map_toArray, List.map_cons, List.map_nil]); first | done | rfl | (simp only [List.length_drop, List.length_take]; rfl)) ?_; (with_reducible refine (number_Short.calls kj2 a0_0 a0_1 a0_2 t349 _ ?side1 A16.out).mono ?_); (case side1 => first | exact hL | exact LaidW.below hL (by repeat (first | (with_reducible first | exact HB.out | apply below_alloc | apply pw_below_drewN | apply below_drew1 | refine below_set ?_ GE343.out) | exact HB.out)) | (repeat (first | exact hL | apply LaidW.drewN | apply LaidW.drew))); rintro e w20 ⟨rfl, hb⟩; refine ⟨_, rfl, ?_⟩; have n0_ := Aside0.mk (Kd.R_below (by (with_reducible repeat (first | apply Kd.R_alloc | apply Kd.R_drewN | apply Kd.R_drew)); exact HO348.out) hb); have n1_ := Aside0.mk (blk_below (g := gb343) (o := .cells #[.bool a0_0, .string a0_1, .string a0_2] 23 (0, 0)) (by (with_reducible repeat (first | refine blk_drewN ?_ _ | refine blk_drew ?_ | refine blk_alloc ?_ _)); exact BK343.out) hb); have n2_ := Aside0.mk (below_step (by repeat (first | (with_reducible first | exact HB.out | apply below_alloc | apply pw_below_drewN | apply below_drew1 | refine below_set ?_ GE343.out) | exact HB.out)) hb); clear HO348; clear BK343; clear HB; have HO348 := n0_; have BK343 := n1_; have HB := n2_; clear n0_ n1_ n2_; (try clear hb); (try clear hb2); (try clear hk); (try clear hi)))
    go_loopg [6, 7] kj2 (fun kq v6 v7 w' => ∃ (x6_2 : Bool) (x7_2 : Int), v6 = .bool x6_2 ∧ v7 = .int .i64 x7_2 ∧ Aside0 (abridgerlaw5_NumberBack.l0 kq t346 t349 x6_2 x7_2 a0_0 a0_1 a0_2 = some r) ∧ Aside0 (kq ≤ kj2) ∧ Aside0 (Kd.R Kd.string 9 w' w.heap.size (fun _ => True) v347 t346) ∧ Aside0 (w'.heap[gb343]? = some (.cells #[.bool a0_0, .string a0_1, .string a0_2] 23 (0, 0))) ∧ Aside0 (Below w.heap.size w w'))
    case atStart => exact ⟨(false), (0), (by first | rfl | (simp; done) | (simp [bne_nil_]; done) | (simp [*]; done) | (simp [wrap64]; done) | (refine congrArg (Value.int .i64) ?_; unfold wrap64; omega)), (by first | rfl | (simp; done) | (simp [bne_nil_]; done) | (simp [*]; done) | (simp [wrap64]; done) | (refine congrArg (Value.int .i64) ?_; unfold wrap64; omega)), H', ⟨Nat.le_refl _⟩, ⟨by (with_reducible repeat (first | apply Kd.R_alloc | apply Kd.R_drewN | apply Kd.R_drew)); exact HO348.out⟩, ⟨by (with_reducible repeat (first | refine blk_drewN ?_ _ | refine blk_drew ?_ | refine blk_alloc ?_ _)); exact BK343.out⟩, ⟨by repeat (first | (with_reducible first | exact HB.out | apply below_alloc | apply pw_below_drewN | apply below_drew1 | refine below_set ?_ GE343.out) | exact HB.out)⟩⟩
    case round =>
     clear H'
     try clear c1
     try clear p2
     try clear c4
     try clear c6
     try clear p6
     try clear c7
     try clear c7b0
     try clear c7b1
     try clear c9
     try clear c9b0
     try clear c9b1
     try clear c13
     try clear c14
     try clear c15
     try clear hcz10_0
     try clear hcz10_1
     try clear hcz10_2
     try clear hcz12_0
     try clear hcz12_1
     try clear hcz12_2
     try clear hcz17_0
     try clear hcz17_1
     try clear hcz17_2
     try clear hcz19_0
     try clear hcz19_1
     try clear hcz19_2
     try clear hcz8_0
     try clear hcz8_1
     try clear hcz8_2
     try clear hfz10_0
     try clear hfz10_1
     try clear hfz10_2
     try clear hfz12_0
     try clear hfz12_1
     try clear hfz12_2
     try clear hfz17_0
     try clear hfz17_1
     try clear hfz17_2
     try clear hfz19_0
     try clear hfz19_1
     try clear hfz19_2
     try clear hfz8_0
     try clear hfz8_1
     try clear hfz8_2
     try clear p2
     try clear p6
     obtain ⟨x6_2, x7_2, rfl, rfl, HA, HK2, HO_4, BK343, HB⟩ := hrel
     cases gk with
     | zero => exact absurd HA.out (by simp [abridgerlaw5_NumberBack.l0])
     | succ k2 =>
      have H := HA.out
      clear HA
      simp only [abridgerlaw5_NumberBack.l0] at H
      by_cases c21 : x7_2 < (t346.length : Int)
      ·rw [if_pos c21] at H
       have c21b0 : decide (x7_2 < (t346.length : Int)) = true := decide_eq_true c21
       clear c21
       by_cases c22 : 0 ≤ x7_2
       ·rw [if_pos c22] at H
        have c22b0 : decide (0 ≤ x7_2) = true := decide_eq_true c22
        clear c22
        replace H := Option.bind_eq_some_iff.mp H
        obtain ⟨⟨t351, t352, t353, t354⟩, A230, H⟩ := H
        replace H : (if t354 = true then (if (!(t351 == a0_0) || (!(t352.toList == a0_1.toList) || (!(t353.toList == a0_2.toList)))) = true then (some false) else (if (t349.size : Int) > ((rdOf ByteArray.empty t346 x7_2).size : Int) then (some false) else (if x6_2 = true then (abridgerlaw5_NumberBack.l0 k2 t346 t349 true (wrap64 (x7_2 + 1)) a0_0 a0_1 a0_2) else (abridgerlaw5_NumberBack.l0 k2 t346 t349 ((rdOf ByteArray.empty t346 x7_2).toList == t349.toList) (wrap64 (x7_2 + 1)) a0_0 a0_1 a0_2)))) else (some false)) = some r := H
        have A23 := Aside0.mk A230
        clear A230
        by_cases c24 : t354 = true
        ·subst c24
         have H1 : (if (!(t351 == a0_0) || (!(t352.toList == a0_1.toList) || (!(t353.toList == a0_2.toList)))) = true then (some false) else (if (t349.size : Int) > ((rdOf ByteArray.empty t346 x7_2).size : Int) then (some false) else (if x6_2 = true then (abridgerlaw5_NumberBack.l0 k2 t346 t349 true (wrap64 (x7_2 + 1)) a0_0 a0_1 a0_2) else (abridgerlaw5_NumberBack.l0 k2 t346 t349 ((rdOf ByteArray.empty t346 x7_2).toList == t349.toList) (wrap64 (x7_2 + 1)) a0_0 a0_1 a0_2)))) = some r := by rw [if_pos rfl] at H; exact H
         clear H
         have H := H1
         clear H1
         by_cases c25 : (!(t351 == a0_0) || (!(t352.toList == a0_1.toList) || (!(t353.toList == a0_2.toList)))) = true
         ·rw [if_pos c25] at H
          have c25b0 : (!(t351 == a0_0) || (!(t352.toList == a0_1.toList) || (!(t353.toList == a0_2.toList)))) = true := c25
          clear c25
          obtain rfl := Option.some.inj H
          obtain ⟨Ao26, co26, eo26⟩ := Kd.R_slice HO_4.out
          subst eo26
          have p350 : 0 ≤ (x7_2 : Int) := of_decide_eq_true (by first | (with_reducible assumption) | assumption)
          have q350 : x7_2 < (t346.length : Int) := of_decide_eq_true (by first | (with_reducible assumption) | assumption)
          obtain ⟨ad350, e350, hx350_0⟩ := Kd.at_string (Kd.R_reads' HO_4.out).2.2 x7_2 p350 q350
          cases e350
          replace p350 := eq_true p350
          replace q350 := eq_true q350
          go_wp2_with (first | ((with_reducible refine gate_callee (f := 8) rfl ?_); refine goesL_ (some 46) rfl rfl Tryz.func8 (by kernel_rfl) rfl #[.string (rdOf ByteArray.empty t346 x7_2)] rfl (by (try simp only [List.map_toArray, List.map_cons, List.map_nil]); first | done | rfl | (simp only [List.length_drop, List.length_take]; rfl)) ?_; (with_reducible refine (number_Read.calls k2 (rdOf ByteArray.empty t346 x7_2) t351 t352 t353 true _ ?side1 A23.out).mono ?_); (case side1 => first | exact hL | exact LaidW.below hL (by repeat (first | (with_reducible first | exact HB.out | apply below_alloc | apply pw_below_drewN | apply below_drew1 | refine below_set ?_ GE343.out) | exact HB.out)) | (repeat (first | exact hL | apply LaidW.drewN | apply LaidW.drew))); rintro e w27 ⟨rfl, hb⟩; refine ⟨_, rfl, ?_⟩; have n0_ := Aside0.mk (Kd.R_below (by (with_reducible repeat (first | apply Kd.R_alloc | apply Kd.R_drewN | apply Kd.R_drew)); exact HO_4.out) hb); have n1_ := Aside0.mk (blk_below (g := gb343) (o := .cells #[.bool a0_0, .string a0_1, .string a0_2] 23 (0, 0)) (by (with_reducible repeat (first | refine blk_drewN ?_ _ | refine blk_drew ?_ | refine blk_alloc ?_ _)); exact BK343.out) hb); have n2_ := Aside0.mk (below_step (by repeat (first | (with_reducible first | exact HB.out | apply below_alloc | apply pw_below_drewN | apply below_drew1 | refine below_set ?_ GE343.out) | exact HB.out)) hb); clear HO_4; clear BK343; clear HB; have HO_4 := n0_; have BK343 := n1_; have HB := n2_; clear n0_ n1_ n2_; (try clear hb); (try clear hb2); (try clear hk); (try clear hi)) | ((with_reducible refine gate_dst (N := 8) rfl ?_); (try (refine gate_guard (by rfl) ?_; dsimp only)); refine box_event ?hg (N := 8) ?hd (cs := #[.bool false, .string (⟨#[]⟩ : ByteArray), .string (⟨#[]⟩ : ByteArray)]) (t := 23) ?hr ?_; (case hd => rfl); (case hg => rfl); (case hr => first | (go_simp; done) | (go_simp; rfl)); intro gb355 hg w28 hbox hb; have n0_ := Aside0.mk (Kd.R_below (by (with_reducible repeat (first | apply Kd.R_alloc | apply Kd.R_drewN | apply Kd.R_drew)); exact HO_4.out) hb); have n1_ := Aside0.mk (blk_below (g := gb343) (o := .cells #[.bool a0_0, .string a0_1, .string a0_2] 23 (0, 0)) (by (with_reducible repeat (first | refine blk_drewN ?_ _ | refine blk_drew ?_ | refine blk_alloc ?_ _)); exact BK343.out) hb); have n2_ := Aside0.mk (below_step (by repeat (first | (with_reducible first | exact HB.out | apply below_alloc | apply pw_below_drewN | apply below_drew1 | refine below_set ?_ GE343.out) | exact HB.out)) hb); have n3_ := Aside0.mk (hbox); have n4_ := Aside0.mk ((by rw [hg]; exact (below_size (by repeat (first | (with_reducible first | exact HB.out | apply below_alloc | apply pw_below_drewN | apply below_drew1 | refine below_set ?_ GE343.out) | exact HB.out))) : w.heap.size ≤ gb355)); have n5_ := Aside0.mk ((by rw [hg]; exact (below_size (by repeat (first | (with_reducible first | exact HB.out | apply below_alloc | apply pw_below_drewN | apply below_drew1 | refine below_set ?_ GE343.out) | exact HB.out))) : w.heap.size ≤ gb355)); have n6_ := Aside0.mk ((by rw [hg]; exact Nat.ne_of_lt (blk_lt (g := gb343) (o := .cells #[.bool a0_0, .string a0_1, .string a0_2] 23 (0, 0)) (by (with_reducible repeat (first | refine blk_drewN ?_ _ | refine blk_drew ?_ | refine blk_alloc ?_ _)); exact BK343.out)) : gb343 ≠ gb355)); have n7_ := Aside0.mk ((by rw [hg]; exact Nat.ne_of_gt (blk_lt (g := gb343) (o := .cells #[.bool a0_0, .string a0_1, .string a0_2] 23 (0, 0)) (by (with_reducible repeat (first | refine blk_drewN ?_ _ | refine blk_drew ?_ | refine blk_alloc ?_ _)); exact BK343.out)) : gb355 ≠ gb343)); clear HO_4; clear BK343; clear HB; have HO_4 := n0_; have BK343 := n1_; have HB := n2_; have BK355 := n3_; have GW355 := n4_; have GE355 := n5_; have NB343_355 := n6_; have NB355_343 := n7_; clear n0_ n1_ n2_ n3_ n4_ n5_ n6_ n7_; clear hb hbox hg; have hnb29 := NB355_343.out; have hnc29 := NB343_355.out; have hcz30_0 : w28.cell? ⟨gb355, 0, none⟩ = some (.bool false) := (blk_cell BK355.out 0).trans rfl; have hcz30_1 : w28.cell? ⟨gb355, 1, none⟩ = some (.string (⟨#[]⟩ : ByteArray)) := (blk_cell BK355.out 1).trans rfl; have hcz30_2 : w28.cell? ⟨gb355, 2, none⟩ = some (.string (⟨#[]⟩ : ByteArray)) := (blk_cell BK355.out 2).trans rfl; have hfz30_0 := blk_frozen BK355.out 0; have hfz30_1 := blk_frozen BK355.out 1; have hfz30_2 := blk_frozen BK355.out 2; have hcz31_0 : w28.cell? ⟨gb343, 0, none⟩ = some (.bool a0_0) := (blk_cell BK343.out 0).trans rfl; have hcz31_1 : w28.cell? ⟨gb343, 1, none⟩ = some (.string a0_1) := (blk_cell BK343.out 1).trans rfl; have hcz31_2 : w28.cell? ⟨gb343, 2, none⟩ = some (.string a0_2) := (blk_cell BK343.out 2).trans rfl; have hfz31_0 := blk_frozen BK343.out 0; have hfz31_1 := blk_frozen BK343.out 1; have hfz31_2 := blk_frozen BK343.out 2))
          go_ret
          exact ⟨by first | rfl | (simp [errW_none, errW_some] <;> rfl) | (simp [*, errW_none, errW_some] <;> rfl), by repeat (first | (with_reducible first | exact HB.out | apply below_alloc | apply pw_below_drewN | apply below_drew1 | refine below_set ?_ GE343.out | refine below_set ?_ GE355.out) | exact HB.out)⟩
         ·rw [if_neg c25] at H
          have c25b0 : (!(t351 == a0_0) || (!(t352.toList == a0_1.toList) || (!(t353.toList == a0_2.toList)))) = false := by simpa using c25
          clear c25
          by_cases c32 : (t349.size : Int) > ((rdOf ByteArray.empty t346 x7_2).size : Int)
          ·rw [if_pos c32] at H
           have c32b0 : decide (((rdOf ByteArray.empty t346 x7_2).size : Int) < (t349.size : Int)) = true := decide_eq_true c32
           have c32b1 : decide ((rdOf ByteArray.empty t346 x7_2).size < t349.size) = true := decide_eq_true (Int.ofNat_lt.mp c32)
           clear c32
           obtain rfl := Option.some.inj H
           obtain ⟨Ao33, co33, eo33⟩ := Kd.R_slice HO_4.out
           subst eo33
           have p350 : 0 ≤ (x7_2 : Int) := of_decide_eq_true (by first | (with_reducible assumption) | assumption)
           have q350 : x7_2 < (t346.length : Int) := of_decide_eq_true (by first | (with_reducible assumption) | assumption)
           obtain ⟨ad350, e350, hx350_0⟩ := Kd.at_string (Kd.R_reads' HO_4.out).2.2 x7_2 p350 q350
           cases e350
           replace p350 := eq_true p350
           replace q350 := eq_true q350
           go_wp2_with (first | ((with_reducible refine gate_callee (f := 8) rfl ?_); refine goesL_ (some 46) rfl rfl Tryz.func8 (by kernel_rfl) rfl #[.string (rdOf ByteArray.empty t346 x7_2)] rfl (by (try simp only [List.map_toArray, List.map_cons, List.map_nil]); first | done | rfl | (simp only [List.length_drop, List.length_take]; rfl)) ?_; (with_reducible refine (number_Read.calls k2 (rdOf ByteArray.empty t346 x7_2) t351 t352 t353 true _ ?side1 A23.out).mono ?_); (case side1 => first | exact hL | exact LaidW.below hL (by repeat (first | (with_reducible first | exact HB.out | apply below_alloc | apply pw_below_drewN | apply below_drew1 | refine below_set ?_ GE343.out) | exact HB.out)) | (repeat (first | exact hL | apply LaidW.drewN | apply LaidW.drew))); rintro e w34 ⟨rfl, hb⟩; refine ⟨_, rfl, ?_⟩; have n0_ := Aside0.mk (Kd.R_below (by (with_reducible repeat (first | apply Kd.R_alloc | apply Kd.R_drewN | apply Kd.R_drew)); exact HO_4.out) hb); have n1_ := Aside0.mk (blk_below (g := gb343) (o := .cells #[.bool a0_0, .string a0_1, .string a0_2] 23 (0, 0)) (by (with_reducible repeat (first | refine blk_drewN ?_ _ | refine blk_drew ?_ | refine blk_alloc ?_ _)); exact BK343.out) hb); have n2_ := Aside0.mk (below_step (by repeat (first | (with_reducible first | exact HB.out | apply below_alloc | apply pw_below_drewN | apply below_drew1 | refine below_set ?_ GE343.out) | exact HB.out)) hb); clear HO_4; clear BK343; clear HB; have HO_4 := n0_; have BK343 := n1_; have HB := n2_; clear n0_ n1_ n2_; (try clear hb); (try clear hb2); (try clear hk); (try clear hi)) | ((with_reducible refine gate_dst (N := 8) rfl ?_); (try (refine gate_guard (by rfl) ?_; dsimp only)); refine box_event ?hg (N := 8) ?hd (cs := #[.bool false, .string (⟨#[]⟩ : ByteArray), .string (⟨#[]⟩ : ByteArray)]) (t := 23) ?hr ?_; (case hd => rfl); (case hg => rfl); (case hr => first | (go_simp; done) | (go_simp; rfl)); intro gb355 hg w35 hbox hb; have n0_ := Aside0.mk (Kd.R_below (by (with_reducible repeat (first | apply Kd.R_alloc | apply Kd.R_drewN | apply Kd.R_drew)); exact HO_4.out) hb); have n1_ := Aside0.mk (blk_below (g := gb343) (o := .cells #[.bool a0_0, .string a0_1, .string a0_2] 23 (0, 0)) (by (with_reducible repeat (first | refine blk_drewN ?_ _ | refine blk_drew ?_ | refine blk_alloc ?_ _)); exact BK343.out) hb); have n2_ := Aside0.mk (below_step (by repeat (first | (with_reducible first | exact HB.out | apply below_alloc | apply pw_below_drewN | apply below_drew1 | refine below_set ?_ GE343.out) | exact HB.out)) hb); have n3_ := Aside0.mk (hbox); have n4_ := Aside0.mk ((by rw [hg]; exact (below_size (by repeat (first | (with_reducible first | exact HB.out | apply below_alloc | apply pw_below_drewN | apply below_drew1 | refine below_set ?_ GE343.out) | exact HB.out))) : w.heap.size ≤ gb355)); have n5_ := Aside0.mk ((by rw [hg]; exact (below_size (by repeat (first | (with_reducible first | exact HB.out | apply below_alloc | apply pw_below_drewN | apply below_drew1 | refine below_set ?_ GE343.out) | exact HB.out))) : w.heap.size ≤ gb355)); have n6_ := Aside0.mk ((by rw [hg]; exact Nat.ne_of_lt (blk_lt (g := gb343) (o := .cells #[.bool a0_0, .string a0_1, .string a0_2] 23 (0, 0)) (by (with_reducible repeat (first | refine blk_drewN ?_ _ | refine blk_drew ?_ | refine blk_alloc ?_ _)); exact BK343.out)) : gb343 ≠ gb355)); have n7_ := Aside0.mk ((by rw [hg]; exact Nat.ne_of_gt (blk_lt (g := gb343) (o := .cells #[.bool a0_0, .string a0_1, .string a0_2] 23 (0, 0)) (by (with_reducible repeat (first | refine blk_drewN ?_ _ | refine blk_drew ?_ | refine blk_alloc ?_ _)); exact BK343.out)) : gb355 ≠ gb343)); clear HO_4; clear BK343; clear HB; have HO_4 := n0_; have BK343 := n1_; have HB := n2_; have BK355 := n3_; have GW355 := n4_; have GE355 := n5_; have NB343_355 := n6_; have NB355_343 := n7_; clear n0_ n1_ n2_ n3_ n4_ n5_ n6_ n7_; clear hb hbox hg; have hnb36 := NB355_343.out; have hnc36 := NB343_355.out; have hcz37_0 : w35.cell? ⟨gb355, 0, none⟩ = some (.bool false) := (blk_cell BK355.out 0).trans rfl; have hcz37_1 : w35.cell? ⟨gb355, 1, none⟩ = some (.string (⟨#[]⟩ : ByteArray)) := (blk_cell BK355.out 1).trans rfl; have hcz37_2 : w35.cell? ⟨gb355, 2, none⟩ = some (.string (⟨#[]⟩ : ByteArray)) := (blk_cell BK355.out 2).trans rfl; have hfz37_0 := blk_frozen BK355.out 0; have hfz37_1 := blk_frozen BK355.out 1; have hfz37_2 := blk_frozen BK355.out 2; have hcz38_0 : w35.cell? ⟨gb343, 0, none⟩ = some (.bool a0_0) := (blk_cell BK343.out 0).trans rfl; have hcz38_1 : w35.cell? ⟨gb343, 1, none⟩ = some (.string a0_1) := (blk_cell BK343.out 1).trans rfl; have hcz38_2 : w35.cell? ⟨gb343, 2, none⟩ = some (.string a0_2) := (blk_cell BK343.out 2).trans rfl; have hfz38_0 := blk_frozen BK343.out 0; have hfz38_1 := blk_frozen BK343.out 1; have hfz38_2 := blk_frozen BK343.out 2; have p356 : 0 ≤ (x7_2 : Int) := of_decide_eq_true (by first | (with_reducible assumption) | assumption); have q356 : x7_2 < (t346.length : Int) := of_decide_eq_true (by first | (with_reducible assumption) | assumption); obtain ⟨ad356, e356, hx356_0⟩ := Kd.at_string (Kd.R_reads' HO_4.out).2.2 x7_2 p356 q356; obtain rfl : ad350 = ad356 := (by injection e356); have hn356_0 : ad350.block ≠ gb355 := Kd.own_blk (Kd.R_ne HO_4.out BK355.out (by decide)); have hn356_1 : ad350.block ≠ gb355 := Kd.own_blk (Kd.R_ne HO_4.out BK355.out (by decide)); have hn356_2 : ad350.block ≠ gb355 := Kd.own_blk (Kd.R_ne HO_4.out BK355.out (by decide)); replace hx356_0 := (cell_far (p := ⟨gb355, 0, none⟩) (by first | (rw [add_block]; exact hn356_0) | (show (Addr.add _ _).block ≠ _; rw [add_block]; exact hn356_0) | exact hn356_0) (.bool t351)).trans hx356_0; replace hx356_0 := (cell_far (p := ⟨gb355, 1, none⟩) (by first | (rw [add_block]; exact hn356_1) | (show (Addr.add _ _).block ≠ _; rw [add_block]; exact hn356_1) | exact hn356_1) (.string t352)).trans hx356_0; replace hx356_0 := (cell_far (p := ⟨gb355, 2, none⟩) (by first | (rw [add_block]; exact hn356_2) | (show (Addr.add _ _).block ≠ _; rw [add_block]; exact hn356_2) | exact hn356_2) (.string t353)).trans hx356_0; clear hn356_0; clear hn356_1; clear hn356_2; replace p356 := eq_true p356; replace q356 := eq_true q356))
           go_ret
           exact ⟨by first | rfl | (simp [errW_none, errW_some] <;> rfl) | (simp [*, errW_none, errW_some] <;> rfl), by repeat (first | (with_reducible first | exact HB.out | apply below_alloc | apply pw_below_drewN | apply below_drew1 | refine below_set ?_ GE343.out | refine below_set ?_ GE355.out) | exact HB.out)⟩
          ·rw [if_neg c32] at H
           have c32b0 : decide (((rdOf ByteArray.empty t346 x7_2).size : Int) < (t349.size : Int)) = false := decide_eq_false c32
           have c32b1 : decide ((rdOf ByteArray.empty t346 x7_2).size < t349.size) = false := decide_eq_false (fun h => c32 (Int.ofNat_lt.mpr h))
           clear c32
           by_cases c39 : x6_2 = true
           ·subst c39
            have H1 : (abridgerlaw5_NumberBack.l0 k2 t346 t349 true (wrap64 (x7_2 + 1)) a0_0 a0_1 a0_2) = some r := by rw [if_pos rfl] at H; exact H
            clear H
            have H := H1
            clear H1
            have H' := Aside0.mk H
            clear H
            obtain ⟨Ao40, co40, eo40⟩ := Kd.R_slice HO_4.out
            subst eo40
            have p350 : 0 ≤ (x7_2 : Int) := of_decide_eq_true (by first | (with_reducible assumption) | assumption)
            have q350 : x7_2 < (t346.length : Int) := of_decide_eq_true (by first | (with_reducible assumption) | assumption)
            obtain ⟨ad350, e350, hx350_0⟩ := Kd.at_string (Kd.R_reads' HO_4.out).2.2 x7_2 p350 q350
            cases e350
            replace p350 := eq_true p350
            replace q350 := eq_true q350
            go_wp2_with (first | ((with_reducible refine gate_callee (f := 8) rfl ?_); refine goesL_ (some 46) rfl rfl Tryz.func8 (by kernel_rfl) rfl #[.string (rdOf ByteArray.empty t346 x7_2)] rfl (by (try simp only [List.map_toArray, List.map_cons, List.map_nil]); first | done | rfl | (simp only [List.length_drop, List.length_take]; rfl)) ?_; (with_reducible refine (number_Read.calls k2 (rdOf ByteArray.empty t346 x7_2) t351 t352 t353 true _ ?side1 A23.out).mono ?_); (case side1 => first | exact hL | exact LaidW.below hL (by repeat (first | (with_reducible first | exact HB.out | apply below_alloc | apply pw_below_drewN | apply below_drew1 | refine below_set ?_ GE343.out) | exact HB.out)) | (repeat (first | exact hL | apply LaidW.drewN | apply LaidW.drew))); rintro e w41 ⟨rfl, hb⟩; refine ⟨_, rfl, ?_⟩; have n0_ := Aside0.mk (Kd.R_below (by (with_reducible repeat (first | apply Kd.R_alloc | apply Kd.R_drewN | apply Kd.R_drew)); exact HO_4.out) hb); have n1_ := Aside0.mk (blk_below (g := gb343) (o := .cells #[.bool a0_0, .string a0_1, .string a0_2] 23 (0, 0)) (by (with_reducible repeat (first | refine blk_drewN ?_ _ | refine blk_drew ?_ | refine blk_alloc ?_ _)); exact BK343.out) hb); have n2_ := Aside0.mk (below_step (by repeat (first | (with_reducible first | exact HB.out | apply below_alloc | apply pw_below_drewN | apply below_drew1 | refine below_set ?_ GE343.out) | exact HB.out)) hb); clear HO_4; clear BK343; clear HB; have HO_4 := n0_; have BK343 := n1_; have HB := n2_; clear n0_ n1_ n2_; (try clear hb); (try clear hb2); (try clear hk); (try clear hi)) | ((with_reducible refine gate_dst (N := 8) rfl ?_); (try (refine gate_guard (by rfl) ?_; dsimp only)); refine box_event ?hg (N := 8) ?hd (cs := #[.bool false, .string (⟨#[]⟩ : ByteArray), .string (⟨#[]⟩ : ByteArray)]) (t := 23) ?hr ?_; (case hd => rfl); (case hg => rfl); (case hr => first | (go_simp; done) | (go_simp; rfl)); intro gb355 hg w42 hbox hb; have n0_ := Aside0.mk (Kd.R_below (by (with_reducible repeat (first | apply Kd.R_alloc | apply Kd.R_drewN | apply Kd.R_drew)); exact HO_4.out) hb); have n1_ := Aside0.mk (blk_below (g := gb343) (o := .cells #[.bool a0_0, .string a0_1, .string a0_2] 23 (0, 0)) (by (with_reducible repeat (first | refine blk_drewN ?_ _ | refine blk_drew ?_ | refine blk_alloc ?_ _)); exact BK343.out) hb); have n2_ := Aside0.mk (below_step (by repeat (first | (with_reducible first | exact HB.out | apply below_alloc | apply pw_below_drewN | apply below_drew1 | refine below_set ?_ GE343.out) | exact HB.out)) hb); have n3_ := Aside0.mk (hbox); have n4_ := Aside0.mk ((by rw [hg]; exact (below_size (by repeat (first | (with_reducible first | exact HB.out | apply below_alloc | apply pw_below_drewN | apply below_drew1 | refine below_set ?_ GE343.out) | exact HB.out))) : w.heap.size ≤ gb355)); have n5_ := Aside0.mk ((by rw [hg]; exact (below_size (by repeat (first | (with_reducible first | exact HB.out | apply below_alloc | apply pw_below_drewN | apply below_drew1 | refine below_set ?_ GE343.out) | exact HB.out))) : w.heap.size ≤ gb355)); have n6_ := Aside0.mk ((by rw [hg]; exact Nat.ne_of_lt (blk_lt (g := gb343) (o := .cells #[.bool a0_0, .string a0_1, .string a0_2] 23 (0, 0)) (by (with_reducible repeat (first | refine blk_drewN ?_ _ | refine blk_drew ?_ | refine blk_alloc ?_ _)); exact BK343.out)) : gb343 ≠ gb355)); have n7_ := Aside0.mk ((by rw [hg]; exact Nat.ne_of_gt (blk_lt (g := gb343) (o := .cells #[.bool a0_0, .string a0_1, .string a0_2] 23 (0, 0)) (by (with_reducible repeat (first | refine blk_drewN ?_ _ | refine blk_drew ?_ | refine blk_alloc ?_ _)); exact BK343.out)) : gb355 ≠ gb343)); clear HO_4; clear BK343; clear HB; have HO_4 := n0_; have BK343 := n1_; have HB := n2_; have BK355 := n3_; have GW355 := n4_; have GE355 := n5_; have NB343_355 := n6_; have NB355_343 := n7_; clear n0_ n1_ n2_ n3_ n4_ n5_ n6_ n7_; clear hb hbox hg; have hnb43 := NB355_343.out; have hnc43 := NB343_355.out; have hcz44_0 : w42.cell? ⟨gb355, 0, none⟩ = some (.bool false) := (blk_cell BK355.out 0).trans rfl; have hcz44_1 : w42.cell? ⟨gb355, 1, none⟩ = some (.string (⟨#[]⟩ : ByteArray)) := (blk_cell BK355.out 1).trans rfl; have hcz44_2 : w42.cell? ⟨gb355, 2, none⟩ = some (.string (⟨#[]⟩ : ByteArray)) := (blk_cell BK355.out 2).trans rfl; have hfz44_0 := blk_frozen BK355.out 0; have hfz44_1 := blk_frozen BK355.out 1; have hfz44_2 := blk_frozen BK355.out 2; have hcz45_0 : w42.cell? ⟨gb343, 0, none⟩ = some (.bool a0_0) := (blk_cell BK343.out 0).trans rfl; have hcz45_1 : w42.cell? ⟨gb343, 1, none⟩ = some (.string a0_1) := (blk_cell BK343.out 1).trans rfl; have hcz45_2 : w42.cell? ⟨gb343, 2, none⟩ = some (.string a0_2) := (blk_cell BK343.out 2).trans rfl; have hfz45_0 := blk_frozen BK343.out 0; have hfz45_1 := blk_frozen BK343.out 1; have hfz45_2 := blk_frozen BK343.out 2; have p356 : 0 ≤ (x7_2 : Int) := of_decide_eq_true (by first | (with_reducible assumption) | assumption); have q356 : x7_2 < (t346.length : Int) := of_decide_eq_true (by first | (with_reducible assumption) | assumption); obtain ⟨ad356, e356, hx356_0⟩ := Kd.at_string (Kd.R_reads' HO_4.out).2.2 x7_2 p356 q356; obtain rfl : ad350 = ad356 := (by injection e356); have hn356_0 : ad350.block ≠ gb355 := Kd.own_blk (Kd.R_ne HO_4.out BK355.out (by decide)); have hn356_1 : ad350.block ≠ gb355 := Kd.own_blk (Kd.R_ne HO_4.out BK355.out (by decide)); have hn356_2 : ad350.block ≠ gb355 := Kd.own_blk (Kd.R_ne HO_4.out BK355.out (by decide)); replace hx356_0 := (cell_far (p := ⟨gb355, 0, none⟩) (by first | (rw [add_block]; exact hn356_0) | (show (Addr.add _ _).block ≠ _; rw [add_block]; exact hn356_0) | exact hn356_0) (.bool t351)).trans hx356_0; replace hx356_0 := (cell_far (p := ⟨gb355, 1, none⟩) (by first | (rw [add_block]; exact hn356_1) | (show (Addr.add _ _).block ≠ _; rw [add_block]; exact hn356_1) | exact hn356_1) (.string t352)).trans hx356_0; replace hx356_0 := (cell_far (p := ⟨gb355, 2, none⟩) (by first | (rw [add_block]; exact hn356_2) | (show (Addr.add _ _).block ≠ _; rw [add_block]; exact hn356_2) | exact hn356_2) (.string t353)).trans hx356_0; clear hn356_0; clear hn356_1; clear hn356_2; replace p356 := eq_true p356; replace q356 := eq_true q356))
            go_roundg k2
            case measure => have := HJ2.out; have := HK2.out; omega
            case rel => exact ⟨(true), (wrap64 (x7_2 + 1)), (by first | rfl | (simp; done) | (simp [bne_nil_]; done) | (simp [*]; done) | (simp [wrap64]; done) | (refine congrArg (Value.int .i64) ?_; unfold wrap64; omega)), (by first | rfl | (simp; done) | (simp [bne_nil_]; done) | (simp [*]; done) | (simp [wrap64]; done) | (refine congrArg (Value.int .i64) ?_; unfold wrap64; omega)), H', ⟨by have := HJ2.out; have := HK2.out; omega⟩, ⟨by (with_reducible repeat (first | apply Kd.R_alloc | apply Kd.R_drewN | apply Kd.R_drew)); exact Kd.R_mono (Kd.R_far (p := ⟨gb355, 2, none⟩) (Kd.R_far (p := ⟨gb355, 1, none⟩) (Kd.R_far (p := ⟨gb355, 0, none⟩) (Kd.R_types HO_4.out BK355.out (by decide)) (fun _ hk => hk.2) (.bool t351)) (fun _ hk => hk.2) (.string t352)) (fun _ hk => hk.2) (.string t353)) (fun _ hk => trivial)⟩, ⟨by (with_reducible repeat (first | refine blk_drewN ?_ _ | refine blk_drew ?_ | refine blk_alloc ?_ _)); refine blk_far ?_ NB343_355.out _; (with_reducible repeat (first | refine blk_drewN ?_ _ | refine blk_drew ?_ | refine blk_alloc ?_ _)); refine blk_far ?_ NB343_355.out _; (with_reducible repeat (first | refine blk_drewN ?_ _ | refine blk_drew ?_ | refine blk_alloc ?_ _)); refine blk_far ?_ NB343_355.out _; (with_reducible repeat (first | refine blk_drewN ?_ _ | refine blk_drew ?_ | refine blk_alloc ?_ _)); exact BK343.out⟩, ⟨by repeat (first | (with_reducible first | exact HB.out | apply below_alloc | apply pw_below_drewN | apply below_drew1 | refine below_set ?_ GE343.out | refine below_set ?_ GE355.out) | exact HB.out)⟩⟩
           ·replace c39 := Bool.eq_false_iff.mpr c39
            subst c39
            have H1 : (abridgerlaw5_NumberBack.l0 k2 t346 t349 ((rdOf ByteArray.empty t346 x7_2).toList == t349.toList) (wrap64 (x7_2 + 1)) a0_0 a0_1 a0_2) = some r := by rw [if_neg (show ¬ (false = true) by decide)] at H; exact H
            clear H
            have H := H1
            clear H1
            have H' := Aside0.mk H
            clear H
            obtain ⟨Ao46, co46, eo46⟩ := Kd.R_slice HO_4.out
            subst eo46
            have p350 : 0 ≤ (x7_2 : Int) := of_decide_eq_true (by first | (with_reducible assumption) | assumption)
            have q350 : x7_2 < (t346.length : Int) := of_decide_eq_true (by first | (with_reducible assumption) | assumption)
            obtain ⟨ad350, e350, hx350_0⟩ := Kd.at_string (Kd.R_reads' HO_4.out).2.2 x7_2 p350 q350
            cases e350
            replace p350 := eq_true p350
            replace q350 := eq_true q350
            go_wp2_with (first | ((with_reducible refine gate_callee (f := 8) rfl ?_); refine goesL_ (some 46) rfl rfl Tryz.func8 (by kernel_rfl) rfl #[.string (rdOf ByteArray.empty t346 x7_2)] rfl (by (try simp only [List.map_toArray, List.map_cons, List.map_nil]); first | done | rfl | (simp only [List.length_drop, List.length_take]; rfl)) ?_; (with_reducible refine (number_Read.calls k2 (rdOf ByteArray.empty t346 x7_2) t351 t352 t353 true _ ?side1 A23.out).mono ?_); (case side1 => first | exact hL | exact LaidW.below hL (by repeat (first | (with_reducible first | exact HB.out | apply below_alloc | apply pw_below_drewN | apply below_drew1 | refine below_set ?_ GE343.out) | exact HB.out)) | (repeat (first | exact hL | apply LaidW.drewN | apply LaidW.drew))); rintro e w47 ⟨rfl, hb⟩; refine ⟨_, rfl, ?_⟩; have n0_ := Aside0.mk (Kd.R_below (by (with_reducible repeat (first | apply Kd.R_alloc | apply Kd.R_drewN | apply Kd.R_drew)); exact HO_4.out) hb); have n1_ := Aside0.mk (blk_below (g := gb343) (o := .cells #[.bool a0_0, .string a0_1, .string a0_2] 23 (0, 0)) (by (with_reducible repeat (first | refine blk_drewN ?_ _ | refine blk_drew ?_ | refine blk_alloc ?_ _)); exact BK343.out) hb); have n2_ := Aside0.mk (below_step (by repeat (first | (with_reducible first | exact HB.out | apply below_alloc | apply pw_below_drewN | apply below_drew1 | refine below_set ?_ GE343.out) | exact HB.out)) hb); clear HO_4; clear BK343; clear HB; have HO_4 := n0_; have BK343 := n1_; have HB := n2_; clear n0_ n1_ n2_; (try clear hb); (try clear hb2); (try clear hk); (try clear hi)) | ((with_reducible refine gate_dst (N := 8) rfl ?_); (try (refine gate_guard (by rfl) ?_; dsimp only)); refine box_event ?hg (N := 8) ?hd (cs := #[.bool false, .string (⟨#[]⟩ : ByteArray), .string (⟨#[]⟩ : ByteArray)]) (t := 23) ?hr ?_; (case hd => rfl); (case hg => rfl); (case hr => first | (go_simp; done) | (go_simp; rfl)); intro gb355 hg w48 hbox hb; have n0_ := Aside0.mk (Kd.R_below (by (with_reducible repeat (first | apply Kd.R_alloc | apply Kd.R_drewN | apply Kd.R_drew)); exact HO_4.out) hb); have n1_ := Aside0.mk (blk_below (g := gb343) (o := .cells #[.bool a0_0, .string a0_1, .string a0_2] 23 (0, 0)) (by (with_reducible repeat (first | refine blk_drewN ?_ _ | refine blk_drew ?_ | refine blk_alloc ?_ _)); exact BK343.out) hb); have n2_ := Aside0.mk (below_step (by repeat (first | (with_reducible first | exact HB.out | apply below_alloc | apply pw_below_drewN | apply below_drew1 | refine below_set ?_ GE343.out) | exact HB.out)) hb); have n3_ := Aside0.mk (hbox); have n4_ := Aside0.mk ((by rw [hg]; exact (below_size (by repeat (first | (with_reducible first | exact HB.out | apply below_alloc | apply pw_below_drewN | apply below_drew1 | refine below_set ?_ GE343.out) | exact HB.out))) : w.heap.size ≤ gb355)); have n5_ := Aside0.mk ((by rw [hg]; exact (below_size (by repeat (first | (with_reducible first | exact HB.out | apply below_alloc | apply pw_below_drewN | apply below_drew1 | refine below_set ?_ GE343.out) | exact HB.out))) : w.heap.size ≤ gb355)); have n6_ := Aside0.mk ((by rw [hg]; exact Nat.ne_of_lt (blk_lt (g := gb343) (o := .cells #[.bool a0_0, .string a0_1, .string a0_2] 23 (0, 0)) (by (with_reducible repeat (first | refine blk_drewN ?_ _ | refine blk_drew ?_ | refine blk_alloc ?_ _)); exact BK343.out)) : gb343 ≠ gb355)); have n7_ := Aside0.mk ((by rw [hg]; exact Nat.ne_of_gt (blk_lt (g := gb343) (o := .cells #[.bool a0_0, .string a0_1, .string a0_2] 23 (0, 0)) (by (with_reducible repeat (first | refine blk_drewN ?_ _ | refine blk_drew ?_ | refine blk_alloc ?_ _)); exact BK343.out)) : gb355 ≠ gb343)); clear HO_4; clear BK343; clear HB; have HO_4 := n0_; have BK343 := n1_; have HB := n2_; have BK355 := n3_; have GW355 := n4_; have GE355 := n5_; have NB343_355 := n6_; have NB355_343 := n7_; clear n0_ n1_ n2_ n3_ n4_ n5_ n6_ n7_; clear hb hbox hg; have hnb49 := NB355_343.out; have hnc49 := NB343_355.out; have hcz50_0 : w48.cell? ⟨gb355, 0, none⟩ = some (.bool false) := (blk_cell BK355.out 0).trans rfl; have hcz50_1 : w48.cell? ⟨gb355, 1, none⟩ = some (.string (⟨#[]⟩ : ByteArray)) := (blk_cell BK355.out 1).trans rfl; have hcz50_2 : w48.cell? ⟨gb355, 2, none⟩ = some (.string (⟨#[]⟩ : ByteArray)) := (blk_cell BK355.out 2).trans rfl; have hfz50_0 := blk_frozen BK355.out 0; have hfz50_1 := blk_frozen BK355.out 1; have hfz50_2 := blk_frozen BK355.out 2; have hcz51_0 : w48.cell? ⟨gb343, 0, none⟩ = some (.bool a0_0) := (blk_cell BK343.out 0).trans rfl; have hcz51_1 : w48.cell? ⟨gb343, 1, none⟩ = some (.string a0_1) := (blk_cell BK343.out 1).trans rfl; have hcz51_2 : w48.cell? ⟨gb343, 2, none⟩ = some (.string a0_2) := (blk_cell BK343.out 2).trans rfl; have hfz51_0 := blk_frozen BK343.out 0; have hfz51_1 := blk_frozen BK343.out 1; have hfz51_2 := blk_frozen BK343.out 2; have p356 : 0 ≤ (x7_2 : Int) := of_decide_eq_true (by first | (with_reducible assumption) | assumption); have q356 : x7_2 < (t346.length : Int) := of_decide_eq_true (by first | (with_reducible assumption) | assumption); obtain ⟨ad356, e356, hx356_0⟩ := Kd.at_string (Kd.R_reads' HO_4.out).2.2 x7_2 p356 q356; obtain rfl : ad350 = ad356 := (by injection e356); have hn356_0 : ad350.block ≠ gb355 := Kd.own_blk (Kd.R_ne HO_4.out BK355.out (by decide)); have hn356_1 : ad350.block ≠ gb355 := Kd.own_blk (Kd.R_ne HO_4.out BK355.out (by decide)); have hn356_2 : ad350.block ≠ gb355 := Kd.own_blk (Kd.R_ne HO_4.out BK355.out (by decide)); replace hx356_0 := (cell_far (p := ⟨gb355, 0, none⟩) (by first | (rw [add_block]; exact hn356_0) | (show (Addr.add _ _).block ≠ _; rw [add_block]; exact hn356_0) | exact hn356_0) (.bool t351)).trans hx356_0; replace hx356_0 := (cell_far (p := ⟨gb355, 1, none⟩) (by first | (rw [add_block]; exact hn356_1) | (show (Addr.add _ _).block ≠ _; rw [add_block]; exact hn356_1) | exact hn356_1) (.string t352)).trans hx356_0; replace hx356_0 := (cell_far (p := ⟨gb355, 2, none⟩) (by first | (rw [add_block]; exact hn356_2) | (show (Addr.add _ _).block ≠ _; rw [add_block]; exact hn356_2) | exact hn356_2) (.string t353)).trans hx356_0; clear hn356_0; clear hn356_1; clear hn356_2; replace p356 := eq_true p356; replace q356 := eq_true q356; have p357 : 0 ≤ (x7_2 : Int) := of_decide_eq_true (by first | (with_reducible assumption) | assumption); have q357 : x7_2 < (t346.length : Int) := of_decide_eq_true (by first | (with_reducible assumption) | assumption); obtain ⟨ad357, e357, hx357_0⟩ := Kd.at_string (Kd.R_reads' HO_4.out).2.2 x7_2 p357 q357; obtain rfl : ad350 = ad357 := (by injection e357); have hn357_0 : ad350.block ≠ gb355 := Kd.own_blk (Kd.R_ne HO_4.out BK355.out (by decide)); have hn357_1 : ad350.block ≠ gb355 := Kd.own_blk (Kd.R_ne HO_4.out BK355.out (by decide)); have hn357_2 : ad350.block ≠ gb355 := Kd.own_blk (Kd.R_ne HO_4.out BK355.out (by decide)); replace hx357_0 := (cell_far (p := ⟨gb355, 0, none⟩) (by first | (rw [add_block]; exact hn357_0) | (show (Addr.add _ _).block ≠ _; rw [add_block]; exact hn357_0) | exact hn357_0) (.bool t351)).trans hx357_0; replace hx357_0 := (cell_far (p := ⟨gb355, 1, none⟩) (by first | (rw [add_block]; exact hn357_1) | (show (Addr.add _ _).block ≠ _; rw [add_block]; exact hn357_1) | exact hn357_1) (.string t352)).trans hx357_0; replace hx357_0 := (cell_far (p := ⟨gb355, 2, none⟩) (by first | (rw [add_block]; exact hn357_2) | (show (Addr.add _ _).block ≠ _; rw [add_block]; exact hn357_2) | exact hn357_2) (.string t353)).trans hx357_0; clear hn357_0; clear hn357_1; clear hn357_2; replace p357 := eq_true p357; replace q357 := eq_true q357))
            go_roundg k2
            case measure => have := HJ2.out; have := HK2.out; omega
            case rel => exact ⟨(((rdOf ByteArray.empty t346 x7_2).toList == t349.toList)), (wrap64 (x7_2 + 1)), (by first | rfl | (simp; done) | (simp [bne_nil_]; done) | (simp [*]; done) | (simp [wrap64]; done) | (refine congrArg (Value.int .i64) ?_; unfold wrap64; omega)), (by first | rfl | (simp; done) | (simp [bne_nil_]; done) | (simp [*]; done) | (simp [wrap64]; done) | (refine congrArg (Value.int .i64) ?_; unfold wrap64; omega)), H', ⟨by have := HJ2.out; have := HK2.out; omega⟩, ⟨by (with_reducible repeat (first | apply Kd.R_alloc | apply Kd.R_drewN | apply Kd.R_drew)); exact Kd.R_mono (Kd.R_far (p := ⟨gb355, 2, none⟩) (Kd.R_far (p := ⟨gb355, 1, none⟩) (Kd.R_far (p := ⟨gb355, 0, none⟩) (Kd.R_types HO_4.out BK355.out (by decide)) (fun _ hk => hk.2) (.bool t351)) (fun _ hk => hk.2) (.string t352)) (fun _ hk => hk.2) (.string t353)) (fun _ hk => trivial)⟩, ⟨by (with_reducible repeat (first | refine blk_drewN ?_ _ | refine blk_drew ?_ | refine blk_alloc ?_ _)); refine blk_far ?_ NB343_355.out _; (with_reducible repeat (first | refine blk_drewN ?_ _ | refine blk_drew ?_ | refine blk_alloc ?_ _)); refine blk_far ?_ NB343_355.out _; (with_reducible repeat (first | refine blk_drewN ?_ _ | refine blk_drew ?_ | refine blk_alloc ?_ _)); refine blk_far ?_ NB343_355.out _; (with_reducible repeat (first | refine blk_drewN ?_ _ | refine blk_drew ?_ | refine blk_alloc ?_ _)); exact BK343.out⟩, ⟨by repeat (first | (with_reducible first | exact HB.out | apply below_alloc | apply pw_below_drewN | apply below_drew1 | refine below_set ?_ GE343.out | refine below_set ?_ GE355.out) | exact HB.out)⟩⟩
        ·replace c24 := Bool.eq_false_iff.mpr c24
         subst c24
         have H1 : (some false) = some r := by rw [if_neg (show ¬ (false = true) by decide)] at H; exact H
         clear H
         have H := H1
         clear H1
         obtain rfl := Option.some.inj H
         obtain ⟨Ao52, co52, eo52⟩ := Kd.R_slice HO_4.out
         subst eo52
         have p350 : 0 ≤ (x7_2 : Int) := of_decide_eq_true (by first | (with_reducible assumption) | assumption)
         have q350 : x7_2 < (t346.length : Int) := of_decide_eq_true (by first | (with_reducible assumption) | assumption)
         obtain ⟨ad350, e350, hx350_0⟩ := Kd.at_string (Kd.R_reads' HO_4.out).2.2 x7_2 p350 q350
         cases e350
         replace p350 := eq_true p350
         replace q350 := eq_true q350
         go_wp2_with (first | ((with_reducible refine gate_callee (f := 8) rfl ?_); refine goesL_ (some 46) rfl rfl Tryz.func8 (by kernel_rfl) rfl #[.string (rdOf ByteArray.empty t346 x7_2)] rfl (by (try simp only [List.map_toArray, List.map_cons, List.map_nil]); first | done | rfl | (simp only [List.length_drop, List.length_take]; rfl)) ?_; (with_reducible refine (number_Read.calls k2 (rdOf ByteArray.empty t346 x7_2) t351 t352 t353 false _ ?side1 A23.out).mono ?_); (case side1 => first | exact hL | exact LaidW.below hL (by repeat (first | (with_reducible first | exact HB.out | apply below_alloc | apply pw_below_drewN | apply below_drew1 | refine below_set ?_ GE343.out) | exact HB.out)) | (repeat (first | exact hL | apply LaidW.drewN | apply LaidW.drew))); rintro e w53 ⟨rfl, hb⟩; refine ⟨_, rfl, ?_⟩; have n0_ := Aside0.mk (Kd.R_below (by (with_reducible repeat (first | apply Kd.R_alloc | apply Kd.R_drewN | apply Kd.R_drew)); exact HO_4.out) hb); have n1_ := Aside0.mk (blk_below (g := gb343) (o := .cells #[.bool a0_0, .string a0_1, .string a0_2] 23 (0, 0)) (by (with_reducible repeat (first | refine blk_drewN ?_ _ | refine blk_drew ?_ | refine blk_alloc ?_ _)); exact BK343.out) hb); have n2_ := Aside0.mk (below_step (by repeat (first | (with_reducible first | exact HB.out | apply below_alloc | apply pw_below_drewN | apply below_drew1 | refine below_set ?_ GE343.out) | exact HB.out)) hb); clear HO_4; clear BK343; clear HB; have HO_4 := n0_; have BK343 := n1_; have HB := n2_; clear n0_ n1_ n2_; (try clear hb); (try clear hb2); (try clear hk); (try clear hi)) | ((with_reducible refine gate_dst (N := 8) rfl ?_); (try (refine gate_guard (by rfl) ?_; dsimp only)); refine box_event ?hg (N := 8) ?hd (cs := #[.bool false, .string (⟨#[]⟩ : ByteArray), .string (⟨#[]⟩ : ByteArray)]) (t := 23) ?hr ?_; (case hd => rfl); (case hg => rfl); (case hr => first | (go_simp; done) | (go_simp; rfl)); intro gb355 hg w54 hbox hb; have n0_ := Aside0.mk (Kd.R_below (by (with_reducible repeat (first | apply Kd.R_alloc | apply Kd.R_drewN | apply Kd.R_drew)); exact HO_4.out) hb); have n1_ := Aside0.mk (blk_below (g := gb343) (o := .cells #[.bool a0_0, .string a0_1, .string a0_2] 23 (0, 0)) (by (with_reducible repeat (first | refine blk_drewN ?_ _ | refine blk_drew ?_ | refine blk_alloc ?_ _)); exact BK343.out) hb); have n2_ := Aside0.mk (below_step (by repeat (first | (with_reducible first | exact HB.out | apply below_alloc | apply pw_below_drewN | apply below_drew1 | refine below_set ?_ GE343.out) | exact HB.out)) hb); have n3_ := Aside0.mk (hbox); have n4_ := Aside0.mk ((by rw [hg]; exact (below_size (by repeat (first | (with_reducible first | exact HB.out | apply below_alloc | apply pw_below_drewN | apply below_drew1 | refine below_set ?_ GE343.out) | exact HB.out))) : w.heap.size ≤ gb355)); have n5_ := Aside0.mk ((by rw [hg]; exact (below_size (by repeat (first | (with_reducible first | exact HB.out | apply below_alloc | apply pw_below_drewN | apply below_drew1 | refine below_set ?_ GE343.out) | exact HB.out))) : w.heap.size ≤ gb355)); have n6_ := Aside0.mk ((by rw [hg]; exact Nat.ne_of_lt (blk_lt (g := gb343) (o := .cells #[.bool a0_0, .string a0_1, .string a0_2] 23 (0, 0)) (by (with_reducible repeat (first | refine blk_drewN ?_ _ | refine blk_drew ?_ | refine blk_alloc ?_ _)); exact BK343.out)) : gb343 ≠ gb355)); have n7_ := Aside0.mk ((by rw [hg]; exact Nat.ne_of_gt (blk_lt (g := gb343) (o := .cells #[.bool a0_0, .string a0_1, .string a0_2] 23 (0, 0)) (by (with_reducible repeat (first | refine blk_drewN ?_ _ | refine blk_drew ?_ | refine blk_alloc ?_ _)); exact BK343.out)) : gb355 ≠ gb343)); clear HO_4; clear BK343; clear HB; have HO_4 := n0_; have BK343 := n1_; have HB := n2_; have BK355 := n3_; have GW355 := n4_; have GE355 := n5_; have NB343_355 := n6_; have NB355_343 := n7_; clear n0_ n1_ n2_ n3_ n4_ n5_ n6_ n7_; clear hb hbox hg; have hnb55 := NB355_343.out; have hnc55 := NB343_355.out; have hcz56_0 : w54.cell? ⟨gb355, 0, none⟩ = some (.bool false) := (blk_cell BK355.out 0).trans rfl; have hcz56_1 : w54.cell? ⟨gb355, 1, none⟩ = some (.string (⟨#[]⟩ : ByteArray)) := (blk_cell BK355.out 1).trans rfl; have hcz56_2 : w54.cell? ⟨gb355, 2, none⟩ = some (.string (⟨#[]⟩ : ByteArray)) := (blk_cell BK355.out 2).trans rfl; have hfz56_0 := blk_frozen BK355.out 0; have hfz56_1 := blk_frozen BK355.out 1; have hfz56_2 := blk_frozen BK355.out 2))
         go_ret
         exact ⟨by first | rfl | (simp [errW_none, errW_some] <;> rfl) | (simp [*, errW_none, errW_some] <;> rfl), by repeat (first | (with_reducible first | exact HB.out | apply below_alloc | apply pw_below_drewN | apply below_drew1 | refine below_set ?_ GE343.out | refine below_set ?_ GE355.out) | exact HB.out)⟩
       ·rw [if_neg c22] at H
        exact absurd H (by simp)
      ·rw [if_neg c21] at H
       have c21b0 : decide (x7_2 < (t346.length : Int)) = false := decide_eq_false c21
       clear c21
       obtain rfl := Option.some.inj H
       obtain ⟨Ao57, co57, eo57⟩ := Kd.R_slice HO_4.out
       subst eo57
       go_wp2
       go_ret
       exact ⟨by first | rfl | (simp [errW_none, errW_some] <;> rfl) | (simp [*, errW_none, errW_some] <;> rfl), by repeat (first | (with_reducible first | exact HB.out | apply below_alloc | apply pw_below_drewN | apply below_drew1 | refine below_set ?_ GE343.out) | exact HB.out)⟩
def abridgerlaw5_NumberBack.Pure : Prop := ∀ (a0_0 : Bool) (a0_1 : ByteArray) (a0_2 : ByteArray), a0_1.size ≤ 140737488351232 → a0_2.size ≤ 140737488351232 → ∃ k, abridgerlaw5_NumberBack.f k a0_0 a0_1 a0_2 = some true
theorem abridgerlaw5_NumberBack.walk (P : abridgerlaw5_NumberBack.Pure) (a0_0 : Bool) (a0_1 : ByteArray) (a0_2 : ByteArray) (w : World) (w0_1 : a0_1.size ≤ 140737488351232) (w0_2 : a0_2.size ≤ 140737488351232) (hL : LaidW w) :
  Calls Tryz.prog 4 #[.agg #[.bool a0_0, .string a0_1, .string a0_2]] w fun e w' => e = .returned (.bool true) ∧ Below w.heap.size w w' := by
 obtain ⟨k, h⟩ := P a0_0 a0_1 a0_2 w0_1 w0_2
 refine (abridgerlaw5_NumberBack.calls k a0_0 a0_1 a0_2 true w hL h).mono ?_
 rintro e w' ⟨rfl, hd⟩
 exact ⟨rfl, hd⟩
end Go.Proofs.YthimiidnbnlemaaGreatDoor.P
