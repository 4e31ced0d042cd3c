-- printed by xprint.py (a program of this session's, over the kit's print); Lean checks it
import Derived.Test.YthimiidnbnlemaaGreatDoorNumberLeastPx0
import Derived.Test.YthimiidnbnlemaaGreatDoorNumberLeastPx12
import Derived.Test.YthimiidnbnlemaaGreatDoorNumberLeastPx18
namespace Go.Proofs.YthimiidnbnlemaaGreatDoor.P
open Go.RowKit Go.Proofs.YthimiidnbnlemaaGreatDoorW.PrintWords Go.Proofs.YthimiidnbnlemaaGreatDoorW.PrintLast Go.Proofs.YthimiidnbnlemaaGreatDoorW.PrintMore Go.Proofs.YthimiidnbnlemaaGreatDoorX
attribute [local go_sem] max2_int min2_int max_two min_two max_three min_three max_four min_four   -- for this text's walks alone
set_option linter.unusedVariables false
set_option linter.unusedSimpArgs false
def abridgerlaw5_NumberLeast.j0 : Nat → ByteArray → Bool → Bool → Bool → ByteArray → ByteArray → Option (Bool)
 | 0, _, _, _, _, _, _ => none
 | k + 1, x0, x3, x24, x364000, x364001, x364002 => if x24 = true then (some x3) else (if 0 < (x0.size : Int) then (if (bt x0 0) = 45 then (if 1 < (x0.size : Int) then (if (bt x0 1) = 46 then (some true) else (if (bt x0 0) = 43 then (some true) else ((number_Short.f k x364000 x364001 x364002).bind fun t364 => (if (t364.size : Int) > 0 then (some (decide ((t364.size : Int) ≤ (x0.size : Int)))) else (some false))))) else (none)) else (if (bt x0 0) = 46 then (some true) else (if (bt x0 0) = 43 then (some true) else ((number_Short.f k x364000 x364001 x364002).bind fun t365 => (if (t365.size : Int) > 0 then (some (decide ((t365.size : Int) ≤ (x0.size : Int)))) else (some false)))))) else (none))
def abridgerlaw5_NumberLeast.f (k : Nat) (a0 : ByteArray) : Option (Bool) := (abridgerlaw5_alive.f k).bind fun t358 => ((abridgerref1_ReadNum.f k a0).bind fun bt359 => (if t358 = true then (if (a0.size : Int) > 200 then (abridgerlaw5_NumberLeast.j0 k a0 t358 true bt359.1 bt359.2.1 bt359.2.2.1) else (abridgerlaw5_NumberLeast.j0 k a0 t358 (!bt359.2.2.2) bt359.1 bt359.2.1 bt359.2.2.1)) else (abridgerlaw5_NumberLeast.j0 k a0 t358 true bt359.1 bt359.2.1 bt359.2.2.1)))
theorem abridgerlaw5_NumberLeast.mono_l : ∀ k, (∀ y0 y1 y2 y3 y4 y5, LeO (abridgerlaw5_NumberLeast.j0 k y0 y1 y2 y3 y4 y5) (abridgerlaw5_NumberLeast.j0 (k + 1) y0 y1 y2 y3 y4 y5))
 | 0 => fun _ _ _ _ _ _ r h => by simp [abridgerlaw5_NumberLeast.j0] at h
 | k + 1 => by
  have ih0 := abridgerlaw5_NumberLeast.mono_l k
  ·intro y0 y1 y2 y3 y4 y5
   unfold abridgerlaw5_NumberLeast.j0
   repeat' first
   | (with_reducible exact ih0 _ _ _ _ _ _)
   | (with_reducible exact abridgerlaw5_alive.mono _)
   | (with_reducible exact abridgerref1_ReadNum.mono _ _)
   | (with_reducible exact number_Short.mono _ _ _ _)
   | (with_reducible exact LeO.refl _)
   | (with_reducible exact LeO.none _)
   | (with_reducible refine LeO.ite ?_ ?_)
   | (with_reducible refine LeO.bind ?_ (fun _ => ?_))
   | exact ih0 _ _ _ _ _ _
   | exact abridgerlaw5_alive.mono _
   | exact abridgerref1_ReadNum.mono _ _
   | exact number_Short.mono _ _ _ _
   | exact LeO.none _
   | refine LeO.ite ?_ ?_
   | refine LeO.bind ?_ (fun _ => ?_)
theorem abridgerlaw5_NumberLeast.mono : ∀ a0 k, LeO (abridgerlaw5_NumberLeast.f k a0) (abridgerlaw5_NumberLeast.f (k + 1) a0) := by
 intro a0 k
 have ih0 := abridgerlaw5_NumberLeast.mono_l k
 unfold abridgerlaw5_NumberLeast.f
 repeat' first
   | (with_reducible exact ih0 _ _ _ _ _ _)
   | (with_reducible exact abridgerlaw5_alive.mono _)
   | (with_reducible exact abridgerref1_ReadNum.mono _ _)
   | (with_reducible exact number_Short.mono _ _ _ _)
   | (with_reducible exact LeO.refl _)
   | (with_reducible exact LeO.none _)
   | (with_reducible refine LeO.ite ?_ ?_)
   | (with_reducible refine LeO.bind ?_ (fun _ => ?_))
   | exact ih0 _ _ _ _ _ _
   | exact abridgerlaw5_alive.mono _
   | exact abridgerref1_ReadNum.mono _ _
   | exact number_Short.mono _ _ _ _
   | exact LeO.none _
   | refine LeO.ite ?_ ?_
   | refine LeO.bind ?_ (fun _ => ?_)
set_option maxHeartbeats 8000000 in
set_option maxRecDepth 100000 in
theorem abridgerlaw5_NumberLeast.calls (k : Nat) (a0 : ByteArray) (r : Bool) (w : World) (hL : LaidW w) (h : abridgerlaw5_NumberLeast.f k a0 = some r) :
  Calls Tryz.prog 5 #[.string a0] w fun e w' => e = .returned (.bool r) ∧ Below w.heap.size w w' := by
 have hu23 := Tryz.underlying23
 have HB := Aside0.mk (Below.refl w.heap.size w)
 have H : ((abridgerlaw5_alive.f k).bind fun t358 => ((abridgerref1_ReadNum.f k a0).bind fun bt359 => (if t358 = true then (if (a0.size : Int) > 200 then (abridgerlaw5_NumberLeast.j0 k a0 t358 true bt359.1 bt359.2.1 bt359.2.2.1) else (abridgerlaw5_NumberLeast.j0 k a0 t358 (!bt359.2.2.2) bt359.1 bt359.2.1 bt359.2.2.1)) else (abridgerlaw5_NumberLeast.j0 k a0 t358 true bt359.1 bt359.2.1 bt359.2.2.1)))) = some r := h
 clear h
 replace H := Option.bind_eq_some_iff.mp H
 obtain ⟨t358, A20, H⟩ := H
 replace H : ((abridgerref1_ReadNum.f k a0).bind fun bt359 => (if t358 = true then (if (a0.size : Int) > 200 then (abridgerlaw5_NumberLeast.j0 k a0 t358 true bt359.1 bt359.2.1 bt359.2.2.1) else (abridgerlaw5_NumberLeast.j0 k a0 t358 (!bt359.2.2.2) bt359.1 bt359.2.1 bt359.2.2.1)) else (abridgerlaw5_NumberLeast.j0 k a0 t358 true bt359.1 bt359.2.1 bt359.2.2.1))) = some r := H
 have A2 := Aside0.mk A20
 clear A20
 replace H := Option.bind_eq_some_iff.mp H
 obtain ⟨⟨t359, t360, t361, t362⟩, A30, H⟩ := H
 replace H : (if t358 = true then (if (a0.size : Int) > 200 then (abridgerlaw5_NumberLeast.j0 k a0 t358 true t359 t360 t361) else (abridgerlaw5_NumberLeast.j0 k a0 t358 (!t362) t359 t360 t361)) else (abridgerlaw5_NumberLeast.j0 k a0 t358 true t359 t360 t361)) = some r := H
 have A3 := Aside0.mk A30
 clear A30
 have HC4 := Aside0.mk H
 clear H
 go_enter Tryz.func5, Tryz.ntmps5
 go_upto_region 3 with (first | ((with_reducible refine gate_callee (f := 7) rfl ?_); refine goesL_ (some 8) rfl rfl Tryz.func7 (by kernel_rfl) rfl #[] rfl (by (try simp only [List.map_toArray, List.map_cons, List.map_nil]); first | done | rfl | (simp only [List.length_drop, List.length_take]; rfl)) ?_; (with_reducible refine (abridgerlaw5_alive.calls k  t358 _ ?side1 A2.out).mono ?_); (case side1 => first | exact hL | exact LaidW.below hL (by repeat (first | (with_reducible first | exact HB.out | apply below_alloc | apply pw_below_drewN | apply below_drew1) | exact HB.out)) | (repeat (first | exact hL | apply LaidW.drewN | apply LaidW.drew))); rintro e w5 ⟨rfl, hb⟩; refine ⟨_, rfl, ?_⟩; have n0_ := Aside0.mk (below_step (by repeat (first | (with_reducible first | exact HB.out | apply below_alloc | apply pw_below_drewN | apply below_drew1) | exact HB.out)) hb); clear HB; have HB := n0_; clear n0_; (try clear hb); (try clear hb2); (try clear hk); (try clear hi)) | ((with_reducible refine gate_callee (f := 9) rfl ?_); refine goesL_ (some 11) rfl rfl Tryz.func9 (by kernel_rfl) rfl #[.string a0] rfl (by (try simp only [List.map_toArray, List.map_cons, List.map_nil]); first | done | rfl | (simp only [List.length_drop, List.length_take]; rfl)) ?_; (with_reducible refine (abridgerref1_ReadNum.calls k a0 t359 t360 t361 t362 _ A3.out).mono ?_); rintro e w6 ⟨rfl, hb⟩; refine ⟨_, rfl, ?_⟩; have n0_ := Aside0.mk (below_step (by repeat (first | (with_reducible first | exact HB.out | apply below_alloc | apply pw_below_drewN | apply below_drew1) | exact HB.out)) hb); clear HB; have HB := n0_; clear n0_; (try clear hb); (try clear hb2); (try clear hk); (try clear hi)) | ((with_reducible refine gate_dst (N := 4) rfl ?_); (try (refine gate_guard (by rfl) ?_; dsimp only)); refine box_event ?hg (N := 4) ?hd (cs := #[.bool false, .string (⟨#[]⟩ : ByteArray), .string (⟨#[]⟩ : ByteArray)]) (t := 23) ?hr ?_; (case hd => rfl); (case hg => rfl); (case hr => first | (go_simp; done) | (go_simp; rfl)); intro gb363 hg w7 hbox hb; have n0_ := Aside0.mk (below_step (by repeat (first | (with_reducible first | exact HB.out | apply below_alloc | apply pw_below_drewN | apply below_drew1) | exact HB.out)) hb); have n1_ := Aside0.mk (hbox); have n2_ := Aside0.mk ((by rw [hg]; exact (below_size (by repeat (first | (with_reducible first | exact HB.out | apply below_alloc | apply pw_below_drewN | apply below_drew1) | exact HB.out))) : w.heap.size ≤ gb363)); have n3_ := Aside0.mk ((by rw [hg]; exact (below_size (by repeat (first | (with_reducible first | exact HB.out | apply below_alloc | apply pw_below_drewN | apply below_drew1) | exact HB.out))) : w.heap.size ≤ gb363)); clear HB; have HB := n0_; have BK363 := n1_; have GW363 := n2_; have GE363 := n3_; clear n0_ n1_ n2_ n3_; clear hb hbox hg; have hcz8_0 : w7.cell? ⟨gb363, 0, none⟩ = some (.bool false) := (blk_cell BK363.out 0).trans rfl; have hcz8_1 : w7.cell? ⟨gb363, 1, none⟩ = some (.string (⟨#[]⟩ : ByteArray)) := (blk_cell BK363.out 1).trans rfl; have hcz8_2 : w7.cell? ⟨gb363, 2, none⟩ = some (.string (⟨#[]⟩ : ByteArray)) := (blk_cell BK363.out 2).trans rfl; have hfz8_0 := blk_frozen BK363.out 0; have hfz8_1 := blk_frozen BK363.out 1; have hfz8_2 := blk_frozen BK363.out 2))
 (try simp only [Act.put, List.setIfInBounds_toArray, List.set_cons_zero, List.set_cons_succ])
 go_cut [24] (fun v24 wc => ∃ (kq : Nat) (x24_3 : Bool), v24 = .bool x24_3 ∧ Aside0 (abridgerlaw5_NumberLeast.j0 kq a0 t358 x24_3 t359 t360 t361 = some r) ∧ Aside0 (kq ≤ k) ∧ Aside0 (wc.heap[gb363]? = some (.cells #[.bool t359, .string t360, .string t361] 23 (0, 0))) ∧ Aside0 (Below w.heap.size w wc))
 case first =>
  have H := HC4.out
  clear HC4
  by_cases c9 : t358 = true
  ·subst c9
   have H1 : (if (a0.size : Int) > 200 then (abridgerlaw5_NumberLeast.j0 k a0 true true t359 t360 t361) else (abridgerlaw5_NumberLeast.j0 k a0 true (!t362) t359 t360 t361)) = some r := by rw [if_pos rfl] at H; exact H
   clear H
   have H := H1
   clear H1
   by_cases c10 : (a0.size : Int) > 200
   ·rw [if_pos c10] at H
    have c10b0 : decide (200 < (a0.size : Int)) = true := decide_eq_true c10
    have c10b1 : decide (200 < a0.size) = true := decide_eq_true (by omega)
    clear c10
    (first | rw [c10b0] | (simp only [i64_w, i32_w]; rw [c10b0]) | skip)
    have H' := Aside0.mk H
    clear H
    go_wp2
    go_meet
    case rel => exact ⟨_, (true), (by first | rfl | (simp; done) | (simp [bne_nil_]; done) | (simp [*]; done) | (simp [wrap64]; done) | (refine congrArg (Value.int .i64) ?_; unfold wrap64; omega)), H', ⟨by first | omega | exact Nat.le_refl _⟩, ⟨by (with_reducible repeat (first | refine blk_drewN ?_ _ | refine blk_drew ?_ | refine blk_alloc ?_ _)); refine blk_put (cs := #[.bool t359, .string t360, .string (⟨#[]⟩ : ByteArray)]) ?_ 2 _ rfl; (with_reducible repeat (first | refine blk_drewN ?_ _ | refine blk_drew ?_ | refine blk_alloc ?_ _)); refine blk_put (cs := #[.bool t359, .string (⟨#[]⟩ : ByteArray), .string (⟨#[]⟩ : ByteArray)]) ?_ 1 _ rfl; (with_reducible repeat (first | refine blk_drewN ?_ _ | refine blk_drew ?_ | refine blk_alloc ?_ _)); refine blk_put (cs := #[.bool false, .string (⟨#[]⟩ : ByteArray), .string (⟨#[]⟩ : ByteArray)]) ?_ 0 _ rfl; (with_reducible repeat (first | refine blk_drewN ?_ _ | refine blk_drew ?_ | refine blk_alloc ?_ _)); exact BK363.out⟩, ⟨by repeat (first | (with_reducible first | exact HB.out | apply below_alloc | apply pw_below_drewN | apply below_drew1 | refine below_set ?_ GE363.out) | exact HB.out)⟩⟩
   ·rw [if_neg c10] at H
    have c10b0 : decide (200 < (a0.size : Int)) = false := decide_eq_false c10
    have c10b1 : decide (200 < a0.size) = false := decide_eq_false (by omega)
    clear c10
    (first | rw [c10b0] | (simp only [i64_w, i32_w]; rw [c10b0]) | skip)
    have H' := Aside0.mk H
    clear H
    go_wp2
    go_meet
    case rel => exact ⟨_, (!t362), (by first | rfl | (simp; done) | (simp [bne_nil_]; done) | (simp [*]; done) | (simp [wrap64]; done) | (refine congrArg (Value.int .i64) ?_; unfold wrap64; omega)), H', ⟨by first | omega | exact Nat.le_refl _⟩, ⟨by (with_reducible repeat (first | refine blk_drewN ?_ _ | refine blk_drew ?_ | refine blk_alloc ?_ _)); refine blk_put (cs := #[.bool t359, .string t360, .string (⟨#[]⟩ : ByteArray)]) ?_ 2 _ rfl; (with_reducible repeat (first | refine blk_drewN ?_ _ | refine blk_drew ?_ | refine blk_alloc ?_ _)); refine blk_put (cs := #[.bool t359, .string (⟨#[]⟩ : ByteArray), .string (⟨#[]⟩ : ByteArray)]) ?_ 1 _ rfl; (with_reducible repeat (first | refine blk_drewN ?_ _ | refine blk_drew ?_ | refine blk_alloc ?_ _)); refine blk_put (cs := #[.bool false, .string (⟨#[]⟩ : ByteArray), .string (⟨#[]⟩ : ByteArray)]) ?_ 0 _ rfl; (with_reducible repeat (first | refine blk_drewN ?_ _ | refine blk_drew ?_ | refine blk_alloc ?_ _)); exact BK363.out⟩, ⟨by repeat (first | (with_reducible first | exact HB.out | apply below_alloc | apply pw_below_drewN | apply below_drew1 | refine below_set ?_ GE363.out) | exact HB.out)⟩⟩
  ·replace c9 := Bool.eq_false_iff.mpr c9
   subst c9
   have H1 : (abridgerlaw5_NumberLeast.j0 k a0 false true t359 t360 t361) = some r := by rw [if_neg (show ¬ (false = true) by decide)] at H; exact H
   clear H
   have H := H1
   clear H1
   have H' := Aside0.mk H
   clear H
   go_wp2
   go_meet
   case rel => exact ⟨_, (true), (by first | rfl | (simp; done) | (simp [bne_nil_]; done) | (simp [*]; done) | (simp [wrap64]; done) | (refine congrArg (Value.int .i64) ?_; unfold wrap64; omega)), H', ⟨by first | omega | exact Nat.le_refl _⟩, ⟨by (with_reducible repeat (first | refine blk_drewN ?_ _ | refine blk_drew ?_ | refine blk_alloc ?_ _)); refine blk_put (cs := #[.bool t359, .string t360, .string (⟨#[]⟩ : ByteArray)]) ?_ 2 _ rfl; (with_reducible repeat (first | refine blk_drewN ?_ _ | refine blk_drew ?_ | refine blk_alloc ?_ _)); refine blk_put (cs := #[.bool t359, .string (⟨#[]⟩ : ByteArray), .string (⟨#[]⟩ : ByteArray)]) ?_ 1 _ rfl; (with_reducible repeat (first | refine blk_drewN ?_ _ | refine blk_drew ?_ | refine blk_alloc ?_ _)); refine blk_put (cs := #[.bool false, .string (⟨#[]⟩ : ByteArray), .string (⟨#[]⟩ : ByteArray)]) ?_ 0 _ rfl; (with_reducible repeat (first | refine blk_drewN ?_ _ | refine blk_drew ?_ | refine blk_alloc ?_ _)); exact BK363.out⟩, ⟨by repeat (first | (with_reducible first | exact HB.out | apply below_alloc | apply pw_below_drewN | apply below_drew1 | refine below_set ?_ GE363.out) | exact HB.out)⟩⟩
 case rest =>
  clear HC4
  try clear c1
  try clear p2
  try clear c5
  try clear p6
  try clear c7
  try clear c9
  try clear c10
  try clear c10b0
  try clear c10b1
  try clear hcz8_0
  try clear hcz8_1
  try clear hcz8_2
  try clear hfz8_0
  try clear hfz8_1
  try clear hfz8_2
  obtain ⟨kq, x24_3, rfl, HA, HJ3, BK363, HB⟩ := hcut
  cases kq with
  | zero => exact absurd HA.out (by simp [abridgerlaw5_NumberLeast.j0])
  | succ kj3 =>
   have H := HA.out
   clear HA
   simp only [abridgerlaw5_NumberLeast.j0] at H
   by_cases c11 : x24_3 = true
   ·subst c11
    have H1 : (some t358) = some r := by rw [if_pos rfl] at H; exact H
    clear H
    have H := H1
    clear H1
    obtain rfl := Option.some.inj H
    go_wp2
    go_ret
    exact ⟨by first | rfl | (simp [errW_none, errW_some] <;> rfl) | (simp [*, errW_none, errW_some] <;> rfl), by repeat (first | (with_reducible first | exact HB.out | apply below_alloc | apply pw_below_drewN | apply below_drew1 | refine below_set ?_ GE363.out) | exact HB.out)⟩
   ·replace c11 := Bool.eq_false_iff.mpr c11
    subst c11
    have H1 : (if 0 < (a0.size : Int) then (if (bt a0 0) = 45 then (if 1 < (a0.size : Int) then (if (bt a0 1) = 46 then (some true) else (if (bt a0 0) = 43 then (some true) else ((number_Short.f kj3 t359 t360 t361).bind fun t364 => (if (t364.size : Int) > 0 then (some (decide ((t364.size : Int) ≤ (a0.size : Int)))) else (some false))))) else (none)) else (if (bt a0 0) = 46 then (some true) else (if (bt a0 0) = 43 then (some true) else ((number_Short.f kj3 t359 t360 t361).bind fun t365 => (if (t365.size : Int) > 0 then (some (decide ((t365.size : Int) ≤ (a0.size : Int)))) else (some false)))))) else (none)) = some r := by rw [if_neg (show ¬ (false = true) by decide)] at H; exact H
    clear H
    have H := H1
    clear H1
    by_cases c12 : 0 < (a0.size : Int)
    ·rw [if_pos c12] at H
     have c12b0 : decide (0 < (a0.size : Int)) = true := decide_eq_true c12
     have c12b1 : decide (0 < a0.size) = true := decide_eq_true (by omega)
     clear c12
     by_cases c14 : (bt a0 0) = 45
     ·rw [if_pos c14] at H
      have c14b0 : ((bt a0 0) == 45) = true := beq_iff_eq.mpr c14
      have c14b1 : ((bt a0 0) != 45) = false := bne_eq_false_iff_eq.mpr c14
      clear c14
      by_cases c15 : 1 < (a0.size : Int)
      ·rw [if_pos c15] at H
       have c15b0 : decide (1 < (a0.size : Int)) = true := decide_eq_true c15
       have c15b1 : decide (1 < a0.size) = true := decide_eq_true (by omega)
       clear c15
       by_cases c17 : (bt a0 1) = 46
       ·rw [if_pos c17] at H
        have c17b0 : ((bt a0 1) == 46) = true := beq_iff_eq.mpr c17
        have c17b1 : ((bt a0 1) != 46) = false := bne_eq_false_iff_eq.mpr c17
        clear c17
        obtain rfl := Option.some.inj H
        have p13 : 0 ≤ (0 : Int) := (by omega)
        have q13 : 0 < a0.size := (by have : (0 : Int) < (a0.size : Int) := of_decide_eq_true (by first | (with_reducible assumption) | assumption); omega)
        have hx13 : ∀ h : 0 < a0.size, ((a0[0]'h).toNat : Int) = bt a0 0 := bt_at a0 0
        clear p13
        have qi13 : (0 < (a0.size : Int)) = True := eq_true (of_decide_eq_true (by first | (with_reducible assumption) | assumption))
        replace q13 := eq_true q13
        have p16 : 0 ≤ (1 : Int) := (by omega)
        have q16 : 1 < a0.size := (by have : (1 : Int) < (a0.size : Int) := of_decide_eq_true (by first | (with_reducible assumption) | assumption); omega)
        have hx16 : ∀ h : 1 < a0.size, ((a0[1]'h).toNat : Int) = bt a0 1 := bt_at a0 1
        clear p16
        have qi16 : (1 < (a0.size : Int)) = True := eq_true (of_decide_eq_true (by first | (with_reducible assumption) | assumption))
        replace q16 := eq_true q16
        go_wp2
        go_ret
        exact ⟨by first | rfl | (simp [errW_none, errW_some] <;> rfl) | (simp [*, errW_none, errW_some] <;> rfl), by repeat (first | (with_reducible first | exact HB.out | apply below_alloc | apply pw_below_drewN | apply below_drew1 | refine below_set ?_ GE363.out) | exact HB.out)⟩
       ·rw [if_neg c17] at H
        have c17b0 : ((bt a0 1) == 46) = false := beq_eq_false_iff_ne.mpr c17
        have c17b1 : ((bt a0 1) != 46) = true := bne_iff_ne.mpr c17
        by_cases c19 : (bt a0 0) = 43
        ·rw [if_pos c19] at H
         have c19b0 : ((bt a0 0) == 43) = true := beq_iff_eq.mpr c19
         have c19b1 : ((bt a0 0) != 43) = false := bne_eq_false_iff_eq.mpr c19
         clear c19
         obtain rfl := Option.some.inj H
         have p13 : 0 ≤ (0 : Int) := (by omega)
         have q13 : 0 < a0.size := (by have : (0 : Int) < (a0.size : Int) := of_decide_eq_true (by first | (with_reducible assumption) | assumption); omega)
         have hx13 : ∀ h : 0 < a0.size, ((a0[0]'h).toNat : Int) = bt a0 0 := bt_at a0 0
         clear p13
         have qi13 : (0 < (a0.size : Int)) = True := eq_true (of_decide_eq_true (by first | (with_reducible assumption) | assumption))
         replace q13 := eq_true q13
         have p16 : 0 ≤ (1 : Int) := (by omega)
         have q16 : 1 < a0.size := (by have : (1 : Int) < (a0.size : Int) := of_decide_eq_true (by first | (with_reducible assumption) | assumption); omega)
         have hx16 : ∀ h : 1 < a0.size, ((a0[1]'h).toNat : Int) = bt a0 1 := bt_at a0 1
         clear p16
         have qi16 : (1 < (a0.size : Int)) = True := eq_true (of_decide_eq_true (by first | (with_reducible assumption) | assumption))
         replace q16 := eq_true q16
         have p18 : 0 ≤ (0 : Int) := (by omega)
         have q18 : 0 < a0.size := (by have : (0 : Int) < (a0.size : Int) := of_decide_eq_true (by first | (with_reducible assumption) | assumption); omega)
         have hx18 : ∀ h : 0 < a0.size, ((a0[0]'h).toNat : Int) = bt a0 0 := bt_at a0 0
         clear p18
         have qi18 : (0 < (a0.size : Int)) = True := eq_true (of_decide_eq_true (by first | (with_reducible assumption) | assumption))
         replace q18 := eq_true q18
         go_wp2
         go_ret
         exact ⟨by first | rfl | (simp [errW_none, errW_some] <;> rfl) | (simp [*, errW_none, errW_some] <;> rfl), by repeat (first | (with_reducible first | exact HB.out | apply below_alloc | apply pw_below_drewN | apply below_drew1 | refine below_set ?_ GE363.out) | exact HB.out)⟩
        ·rw [if_neg c19] at H
         have c19b0 : ((bt a0 0) == 43) = false := beq_eq_false_iff_ne.mpr c19
         have c19b1 : ((bt a0 0) != 43) = true := bne_iff_ne.mpr c19
         replace H := Option.bind_eq_some_iff.mp H
         obtain ⟨t364, A200, H⟩ := H
         replace H : (if (t364.size : Int) > 0 then (some (decide ((t364.size : Int) ≤ (a0.size : Int)))) else (some false)) = some r := H
         have A20 := Aside0.mk A200
         clear A200
         by_cases c21 : (t364.size : Int) > 0
         ·rw [if_pos c21] at H
          have c21b0 : decide (0 < (t364.size : Int)) = true := decide_eq_true c21
          have c21b1 : decide (0 < t364.size) = true := decide_eq_true (by omega)
          clear c21
          obtain rfl := Option.some.inj H
          have p13 : 0 ≤ (0 : Int) := (by omega)
          have q13 : 0 < a0.size := (by have : (0 : Int) < (a0.size : Int) := of_decide_eq_true (by first | (with_reducible assumption) | assumption); omega)
          have hx13 : ∀ h : 0 < a0.size, ((a0[0]'h).toNat : Int) = bt a0 0 := bt_at a0 0
          clear p13
          have qi13 : (0 < (a0.size : Int)) = True := eq_true (of_decide_eq_true (by first | (with_reducible assumption) | assumption))
          replace q13 := eq_true q13
          have p16 : 0 ≤ (1 : Int) := (by omega)
          have q16 : 1 < a0.size := (by have : (1 : Int) < (a0.size : Int) := of_decide_eq_true (by first | (with_reducible assumption) | assumption); omega)
          have hx16 : ∀ h : 1 < a0.size, ((a0[1]'h).toNat : Int) = bt a0 1 := bt_at a0 1
          clear p16
          have qi16 : (1 < (a0.size : Int)) = True := eq_true (of_decide_eq_true (by first | (with_reducible assumption) | assumption))
          replace q16 := eq_true q16
          have p18 : 0 ≤ (0 : Int) := (by omega)
          have q18 : 0 < a0.size := (by have : (0 : Int) < (a0.size : Int) := of_decide_eq_true (by first | (with_reducible assumption) | assumption); omega)
          have hx18 : ∀ h : 0 < a0.size, ((a0[0]'h).toNat : Int) = bt a0 0 := bt_at a0 0
          clear p18
          have qi18 : (0 < (a0.size : Int)) = True := eq_true (of_decide_eq_true (by first | (with_reducible assumption) | assumption))
          replace q18 := eq_true q18
          have hcz22_0 : wc.cell? ⟨gb363, 0, none⟩ = some (.bool t359) := (blk_cell BK363.out 0).trans rfl
          have hcz22_1 : wc.cell? ⟨gb363, 1, none⟩ = some (.string t360) := (blk_cell BK363.out 1).trans rfl
          have hcz22_2 : wc.cell? ⟨gb363, 2, none⟩ = some (.string t361) := (blk_cell BK363.out 2).trans rfl
          have hfz22_0 := blk_frozen BK363.out 0
          have hfz22_1 := blk_frozen BK363.out 1
          have hfz22_2 := blk_frozen BK363.out 2
          go_wp2_with (first | ((with_reducible refine gate_callee (f := 15) rfl ?_); refine goesL_ (some 39) rfl rfl Tryz.func15 (by kernel_rfl) rfl #[.agg #[.bool t359, .string t360, .string t361]] rfl (by (try simp only [List.map_toArray, List.map_cons, List.map_nil]); first | done | rfl | (simp only [List.length_drop, List.length_take]; rfl)) ?_; (with_reducible refine (number_Short.calls kj3 t359 t360 t361 t364 _ ?side1 A20.out).mono ?_); (case side1 => first | exact hL | exact LaidW.below hL (by repeat (first | (with_reducible first | exact HB.out | apply below_alloc | apply pw_below_drewN | apply below_drew1 | refine below_set ?_ GE363.out) | exact HB.out)) | (repeat (first | exact hL | apply LaidW.drewN | apply LaidW.drew))); rintro e w23 ⟨rfl, hb⟩; refine ⟨_, rfl, ?_⟩; have n0_ := Aside0.mk (blk_below (g := gb363) (o := .cells #[.bool t359, .string t360, .string t361] 23 (0, 0)) (by (with_reducible repeat (first | refine blk_drewN ?_ _ | refine blk_drew ?_ | refine blk_alloc ?_ _)); exact BK363.out) hb); have n1_ := Aside0.mk (below_step (by repeat (first | (with_reducible first | exact HB.out | apply below_alloc | apply pw_below_drewN | apply below_drew1 | refine below_set ?_ GE363.out) | exact HB.out)) hb); clear BK363; clear HB; have BK363 := n0_; have HB := n1_; clear n0_ n1_; (try clear hb); (try clear hb2); (try clear hk); (try clear hi)))
          go_ret
          exact ⟨by first | rfl | (simp [errW_none, errW_some] <;> rfl) | (simp [*, errW_none, errW_some] <;> rfl), by repeat (first | (with_reducible first | exact HB.out | apply below_alloc | apply pw_below_drewN | apply below_drew1 | refine below_set ?_ GE363.out) | exact HB.out)⟩
         ·rw [if_neg c21] at H
          have c21b0 : decide (0 < (t364.size : Int)) = false := decide_eq_false c21
          have c21b1 : decide (0 < t364.size) = false := decide_eq_false (by omega)
          clear c21
          obtain rfl := Option.some.inj H
          have p13 : 0 ≤ (0 : Int) := (by omega)
          have q13 : 0 < a0.size := (by have : (0 : Int) < (a0.size : Int) := of_decide_eq_true (by first | (with_reducible assumption) | assumption); omega)
          have hx13 : ∀ h : 0 < a0.size, ((a0[0]'h).toNat : Int) = bt a0 0 := bt_at a0 0
          clear p13
          have qi13 : (0 < (a0.size : Int)) = True := eq_true (of_decide_eq_true (by first | (with_reducible assumption) | assumption))
          replace q13 := eq_true q13
          have p16 : 0 ≤ (1 : Int) := (by omega)
          have q16 : 1 < a0.size := (by have : (1 : Int) < (a0.size : Int) := of_decide_eq_true (by first | (with_reducible assumption) | assumption); omega)
          have hx16 : ∀ h : 1 < a0.size, ((a0[1]'h).toNat : Int) = bt a0 1 := bt_at a0 1
          clear p16
          have qi16 : (1 < (a0.size : Int)) = True := eq_true (of_decide_eq_true (by first | (with_reducible assumption) | assumption))
          replace q16 := eq_true q16
          have p18 : 0 ≤ (0 : Int) := (by omega)
          have q18 : 0 < a0.size := (by have : (0 : Int) < (a0.size : Int) := of_decide_eq_true (by first | (with_reducible assumption) | assumption); omega)
          have hx18 : ∀ h : 0 < a0.size, ((a0[0]'h).toNat : Int) = bt a0 0 := bt_at a0 0
          clear p18
          have qi18 : (0 < (a0.size : Int)) = True := eq_true (of_decide_eq_true (by first | (with_reducible assumption) | assumption))
          replace q18 := eq_true q18
          have hcz24_0 : wc.cell? ⟨gb363, 0, none⟩ = some (.bool t359) := (blk_cell BK363.out 0).trans rfl
          have hcz24_1 : wc.cell? ⟨gb363, 1, none⟩ = some (.string t360) := (blk_cell BK363.out 1).trans rfl
          have hcz24_2 : wc.cell? ⟨gb363, 2, none⟩ = some (.string t361) := (blk_cell BK363.out 2).trans rfl
          have hfz24_0 := blk_frozen BK363.out 0
          have hfz24_1 := blk_frozen BK363.out 1
          have hfz24_2 := blk_frozen BK363.out 2
          go_wp2_with (first | ((with_reducible refine gate_callee (f := 15) rfl ?_); refine goesL_ (some 39) rfl rfl Tryz.func15 (by kernel_rfl) rfl #[.agg #[.bool t359, .string t360, .string t361]] rfl (by (try simp only [List.map_toArray, List.map_cons, List.map_nil]); first | done | rfl | (simp only [List.length_drop, List.length_take]; rfl)) ?_; (with_reducible refine (number_Short.calls kj3 t359 t360 t361 t364 _ ?side1 A20.out).mono ?_); (case side1 => first | exact hL | exact LaidW.below hL (by repeat (first | (with_reducible first | exact HB.out | apply below_alloc | apply pw_below_drewN | apply below_drew1 | refine below_set ?_ GE363.out) | exact HB.out)) | (repeat (first | exact hL | apply LaidW.drewN | apply LaidW.drew))); rintro e w25 ⟨rfl, hb⟩; refine ⟨_, rfl, ?_⟩; have n0_ := Aside0.mk (blk_below (g := gb363) (o := .cells #[.bool t359, .string t360, .string t361] 23 (0, 0)) (by (with_reducible repeat (first | refine blk_drewN ?_ _ | refine blk_drew ?_ | refine blk_alloc ?_ _)); exact BK363.out) hb); have n1_ := Aside0.mk (below_step (by repeat (first | (with_reducible first | exact HB.out | apply below_alloc | apply pw_below_drewN | apply below_drew1 | refine below_set ?_ GE363.out) | exact HB.out)) hb); clear BK363; clear HB; have BK363 := n0_; have HB := n1_; clear n0_ n1_; (try clear hb); (try clear hb2); (try clear hk); (try clear hi)))
          go_ret
          exact ⟨by first | rfl | (simp [errW_none, errW_some] <;> rfl) | (simp [*, errW_none, errW_some] <;> rfl), by repeat (first | (with_reducible first | exact HB.out | apply below_alloc | apply pw_below_drewN | apply below_drew1 | refine below_set ?_ GE363.out) | exact HB.out)⟩
      ·rw [if_neg c15] at H
       exact absurd H (by simp)
     ·rw [if_neg c14] at H
      have c14b0 : ((bt a0 0) == 45) = false := beq_eq_false_iff_ne.mpr c14
      have c14b1 : ((bt a0 0) != 45) = true := bne_iff_ne.mpr c14
      by_cases c27 : (bt a0 0) = 46
      ·rw [if_pos c27] at H
       have c27b0 : ((bt a0 0) == 46) = true := beq_iff_eq.mpr c27
       have c27b1 : ((bt a0 0) != 46) = false := bne_eq_false_iff_eq.mpr c27
       clear c27
       obtain rfl := Option.some.inj H
       have p13 : 0 ≤ (0 : Int) := (by omega)
       have q13 : 0 < a0.size := (by have : (0 : Int) < (a0.size : Int) := of_decide_eq_true (by first | (with_reducible assumption) | assumption); omega)
       have hx13 : ∀ h : 0 < a0.size, ((a0[0]'h).toNat : Int) = bt a0 0 := bt_at a0 0
       clear p13
       have qi13 : (0 < (a0.size : Int)) = True := eq_true (of_decide_eq_true (by first | (with_reducible assumption) | assumption))
       replace q13 := eq_true q13
       have p26 : 0 ≤ (0 : Int) := (by omega)
       have q26 : 0 < a0.size := (by have : (0 : Int) < (a0.size : Int) := of_decide_eq_true (by first | (with_reducible assumption) | assumption); omega)
       have hx26 : ∀ h : 0 < a0.size, ((a0[0]'h).toNat : Int) = bt a0 0 := bt_at a0 0
       clear p26
       have qi26 : (0 < (a0.size : Int)) = True := eq_true (of_decide_eq_true (by first | (with_reducible assumption) | assumption))
       replace q26 := eq_true q26
       go_wp2
       go_ret
       exact ⟨by first | rfl | (simp [errW_none, errW_some] <;> rfl) | (simp [*, errW_none, errW_some] <;> rfl), by repeat (first | (with_reducible first | exact HB.out | apply below_alloc | apply pw_below_drewN | apply below_drew1 | refine below_set ?_ GE363.out) | exact HB.out)⟩
      ·rw [if_neg c27] at H
       have c27b0 : ((bt a0 0) == 46) = false := beq_eq_false_iff_ne.mpr c27
       have c27b1 : ((bt a0 0) != 46) = true := bne_iff_ne.mpr c27
       by_cases c29 : (bt a0 0) = 43
       ·rw [if_pos c29] at H
        have c29b0 : ((bt a0 0) == 43) = true := beq_iff_eq.mpr c29
        have c29b1 : ((bt a0 0) != 43) = false := bne_eq_false_iff_eq.mpr c29
        clear c29
        obtain rfl := Option.some.inj H
        have p13 : 0 ≤ (0 : Int) := (by omega)
        have q13 : 0 < a0.size := (by have : (0 : Int) < (a0.size : Int) := of_decide_eq_true (by first | (with_reducible assumption) | assumption); omega)
        have hx13 : ∀ h : 0 < a0.size, ((a0[0]'h).toNat : Int) = bt a0 0 := bt_at a0 0
        clear p13
        have qi13 : (0 < (a0.size : Int)) = True := eq_true (of_decide_eq_true (by first | (with_reducible assumption) | assumption))
        replace q13 := eq_true q13
        have p26 : 0 ≤ (0 : Int) := (by omega)
        have q26 : 0 < a0.size := (by have : (0 : Int) < (a0.size : Int) := of_decide_eq_true (by first | (with_reducible assumption) | assumption); omega)
        have hx26 : ∀ h : 0 < a0.size, ((a0[0]'h).toNat : Int) = bt a0 0 := bt_at a0 0
        clear p26
        have qi26 : (0 < (a0.size : Int)) = True := eq_true (of_decide_eq_true (by first | (with_reducible assumption) | assumption))
        replace q26 := eq_true q26
        have p28 : 0 ≤ (0 : Int) := (by omega)
        have q28 : 0 < a0.size := (by have : (0 : Int) < (a0.size : Int) := of_decide_eq_true (by first | (with_reducible assumption) | assumption); omega)
        have hx28 : ∀ h : 0 < a0.size, ((a0[0]'h).toNat : Int) = bt a0 0 := bt_at a0 0
        clear p28
        have qi28 : (0 < (a0.size : Int)) = True := eq_true (of_decide_eq_true (by first | (with_reducible assumption) | assumption))
        replace q28 := eq_true q28
        go_wp2
        go_ret
        exact ⟨by first | rfl | (simp [errW_none, errW_some] <;> rfl) | (simp [*, errW_none, errW_some] <;> rfl), by repeat (first | (with_reducible first | exact HB.out | apply below_alloc | apply pw_below_drewN | apply below_drew1 | refine below_set ?_ GE363.out) | exact HB.out)⟩
       ·rw [if_neg c29] at H
        have c29b0 : ((bt a0 0) == 43) = false := beq_eq_false_iff_ne.mpr c29
        have c29b1 : ((bt a0 0) != 43) = true := bne_iff_ne.mpr c29
        replace H := Option.bind_eq_some_iff.mp H
        obtain ⟨t365, A300, H⟩ := H
        replace H : (if (t365.size : Int) > 0 then (some (decide ((t365.size : Int) ≤ (a0.size : Int)))) else (some false)) = some r := H
        have A30 := Aside0.mk A300
        clear A300
        by_cases c31 : (t365.size : Int) > 0
        ·rw [if_pos c31] at H
         have c31b0 : decide (0 < (t365.size : Int)) = true := decide_eq_true c31
         have c31b1 : decide (0 < t365.size) = true := decide_eq_true (by omega)
         clear c31
         obtain rfl := Option.some.inj H
         have p13 : 0 ≤ (0 : Int) := (by omega)
         have q13 : 0 < a0.size := (by have : (0 : Int) < (a0.size : Int) := of_decide_eq_true (by first | (with_reducible assumption) | assumption); omega)
         have hx13 : ∀ h : 0 < a0.size, ((a0[0]'h).toNat : Int) = bt a0 0 := bt_at a0 0
         clear p13
         have qi13 : (0 < (a0.size : Int)) = True := eq_true (of_decide_eq_true (by first | (with_reducible assumption) | assumption))
         replace q13 := eq_true q13
         have p26 : 0 ≤ (0 : Int) := (by omega)
         have q26 : 0 < a0.size := (by have : (0 : Int) < (a0.size : Int) := of_decide_eq_true (by first | (with_reducible assumption) | assumption); omega)
         have hx26 : ∀ h : 0 < a0.size, ((a0[0]'h).toNat : Int) = bt a0 0 := bt_at a0 0
         clear p26
         have qi26 : (0 < (a0.size : Int)) = True := eq_true (of_decide_eq_true (by first | (with_reducible assumption) | assumption))
         replace q26 := eq_true q26
         have p28 : 0 ≤ (0 : Int) := (by omega)
         have q28 : 0 < a0.size := (by have : (0 : Int) < (a0.size : Int) := of_decide_eq_true (by first | (with_reducible assumption) | assumption); omega)
         have hx28 : ∀ h : 0 < a0.size, ((a0[0]'h).toNat : Int) = bt a0 0 := bt_at a0 0
         clear p28
         have qi28 : (0 < (a0.size : Int)) = True := eq_true (of_decide_eq_true (by first | (with_reducible assumption) | assumption))
         replace q28 := eq_true q28
         have hcz32_0 : wc.cell? ⟨gb363, 0, none⟩ = some (.bool t359) := (blk_cell BK363.out 0).trans rfl
         have hcz32_1 : wc.cell? ⟨gb363, 1, none⟩ = some (.string t360) := (blk_cell BK363.out 1).trans rfl
         have hcz32_2 : wc.cell? ⟨gb363, 2, none⟩ = some (.string t361) := (blk_cell BK363.out 2).trans rfl
         have hfz32_0 := blk_frozen BK363.out 0
         have hfz32_1 := blk_frozen BK363.out 1
         have hfz32_2 := blk_frozen BK363.out 2
         go_wp2_with (first | ((with_reducible refine gate_callee (f := 15) rfl ?_); refine goesL_ (some 39) rfl rfl Tryz.func15 (by kernel_rfl) rfl #[.agg #[.bool t359, .string t360, .string t361]] rfl (by (try simp only [List.map_toArray, List.map_cons, List.map_nil]); first | done | rfl | (simp only [List.length_drop, List.length_take]; rfl)) ?_; (with_reducible refine (number_Short.calls kj3 t359 t360 t361 t365 _ ?side1 A30.out).mono ?_); (case side1 => first | exact hL | exact LaidW.below hL (by repeat (first | (with_reducible first | exact HB.out | apply below_alloc | apply pw_below_drewN | apply below_drew1 | refine below_set ?_ GE363.out) | exact HB.out)) | (repeat (first | exact hL | apply LaidW.drewN | apply LaidW.drew))); rintro e w33 ⟨rfl, hb⟩; refine ⟨_, rfl, ?_⟩; have n0_ := Aside0.mk (blk_below (g := gb363) (o := .cells #[.bool t359, .string t360, .string t361] 23 (0, 0)) (by (with_reducible repeat (first | refine blk_drewN ?_ _ | refine blk_drew ?_ | refine blk_alloc ?_ _)); exact BK363.out) hb); have n1_ := Aside0.mk (below_step (by repeat (first | (with_reducible first | exact HB.out | apply below_alloc | apply pw_below_drewN | apply below_drew1 | refine below_set ?_ GE363.out) | exact HB.out)) hb); clear BK363; clear HB; have BK363 := n0_; have HB := n1_; clear n0_ n1_; (try clear hb); (try clear hb2); (try clear hk); (try clear hi)))
         go_ret
         exact ⟨by first | rfl | (simp [errW_none, errW_some] <;> rfl) | (simp [*, errW_none, errW_some] <;> rfl), by repeat (first | (with_reducible first | exact HB.out | apply below_alloc | apply pw_below_drewN | apply below_drew1 | refine below_set ?_ GE363.out) | exact HB.out)⟩
        ·rw [if_neg c31] at H
         have c31b0 : decide (0 < (t365.size : Int)) = false := decide_eq_false c31
         have c31b1 : decide (0 < t365.size) = false := decide_eq_false (by omega)
         clear c31
         obtain rfl := Option.some.inj H
         have p13 : 0 ≤ (0 : Int) := (by omega)
         have q13 : 0 < a0.size := (by have : (0 : Int) < (a0.size : Int) := of_decide_eq_true (by first | (with_reducible assumption) | assumption); omega)
         have hx13 : ∀ h : 0 < a0.size, ((a0[0]'h).toNat : Int) = bt a0 0 := bt_at a0 0
         clear p13
         have qi13 : (0 < (a0.size : Int)) = True := eq_true (of_decide_eq_true (by first | (with_reducible assumption) | assumption))
         replace q13 := eq_true q13
         have p26 : 0 ≤ (0 : Int) := (by omega)
         have q26 : 0 < a0.size := (by have : (0 : Int) < (a0.size : Int) := of_decide_eq_true (by first | (with_reducible assumption) | assumption); omega)
         have hx26 : ∀ h : 0 < a0.size, ((a0[0]'h).toNat : Int) = bt a0 0 := bt_at a0 0
         clear p26
         have qi26 : (0 < (a0.size : Int)) = True := eq_true (of_decide_eq_true (by first | (with_reducible assumption) | assumption))
         replace q26 := eq_true q26
         have p28 : 0 ≤ (0 : Int) := (by omega)
         have q28 : 0 < a0.size := (by have : (0 : Int) < (a0.size : Int) := of_decide_eq_true (by first | (with_reducible assumption) | assumption); omega)
         have hx28 : ∀ h : 0 < a0.size, ((a0[0]'h).toNat : Int) = bt a0 0 := bt_at a0 0
         clear p28
         have qi28 : (0 < (a0.size : Int)) = True := eq_true (of_decide_eq_true (by first | (with_reducible assumption) | assumption))
         replace q28 := eq_true q28
         have hcz34_0 : wc.cell? ⟨gb363, 0, none⟩ = some (.bool t359) := (blk_cell BK363.out 0).trans rfl
         have hcz34_1 : wc.cell? ⟨gb363, 1, none⟩ = some (.string t360) := (blk_cell BK363.out 1).trans rfl
         have hcz34_2 : wc.cell? ⟨gb363, 2, none⟩ = some (.string t361) := (blk_cell BK363.out 2).trans rfl
         have hfz34_0 := blk_frozen BK363.out 0
         have hfz34_1 := blk_frozen BK363.out 1
         have hfz34_2 := blk_frozen BK363.out 2
         go_wp2_with (first | ((with_reducible refine gate_callee (f := 15) rfl ?_); refine goesL_ (some 39) rfl rfl Tryz.func15 (by kernel_rfl) rfl #[.agg #[.bool t359, .string t360, .string t361]] rfl (by (try simp only [List.map_toArray, List.map_cons, List.map_nil]); first | done | rfl | (simp only [List.length_drop, List.length_take]; rfl)) ?_; (with_reducible refine (number_Short.calls kj3 t359 t360 t361 t365 _ ?side1 A30.out).mono ?_); (case side1 => first | exact hL | exact LaidW.below hL (by repeat (first | (with_reducible first | exact HB.out | apply below_alloc | apply pw_below_drewN | apply below_drew1 | refine below_set ?_ GE363.out) | exact HB.out)) | (repeat (first | exact hL | apply LaidW.drewN | apply LaidW.drew))); rintro e w35 ⟨rfl, hb⟩; refine ⟨_, rfl, ?_⟩; have n0_ := Aside0.mk (blk_below (g := gb363) (o := .cells #[.bool t359, .string t360, .string t361] 23 (0, 0)) (by (with_reducible repeat (first | refine blk_drewN ?_ _ | refine blk_drew ?_ | refine blk_alloc ?_ _)); exact BK363.out) hb); have n1_ := Aside0.mk (below_step (by repeat (first | (with_reducible first | exact HB.out | apply below_alloc | apply pw_below_drewN | apply below_drew1 | refine below_set ?_ GE363.out) | exact HB.out)) hb); clear BK363; clear HB; have BK363 := n0_; have HB := n1_; clear n0_ n1_; (try clear hb); (try clear hb2); (try clear hk); (try clear hi)))
         go_ret
         exact ⟨by first | rfl | (simp [errW_none, errW_some] <;> rfl) | (simp [*, errW_none, errW_some] <;> rfl), by repeat (first | (with_reducible first | exact HB.out | apply below_alloc | apply pw_below_drewN | apply below_drew1 | refine below_set ?_ GE363.out) | exact HB.out)⟩
    ·rw [if_neg c12] at H
     exact absurd H (by simp)
def abridgerlaw5_NumberLeast.Pure : Prop := ∀ (a0 : ByteArray), a0.size ≤ 140737488351232 → ∃ k, abridgerlaw5_NumberLeast.f k a0 = some true
theorem abridgerlaw5_NumberLeast.walk (P : abridgerlaw5_NumberLeast.Pure) (a0 : ByteArray) (w : World) (w0 : a0.size ≤ 140737488351232) (hL : LaidW w) :
  Calls Tryz.prog 5 #[.string a0] w fun e w' => e = .returned (.bool true) ∧ Below w.heap.size w w' := by
 obtain ⟨k, h⟩ := P a0 w0
 refine (abridgerlaw5_NumberLeast.calls k a0 true w hL h).mono ?_
 rintro e w' ⟨rfl, hd⟩
 exact ⟨rfl, hd⟩
end Go.Proofs.YthimiidnbnlemaaGreatDoor.P
