-- printed by xprint.py (a program of this session's, over the kit's print); Lean checks it
import Derived.Test.YthimiidnbnlemaaGreatDoorNumberValuePx0
import Derived.Test.YthimiidnbnlemaaGreatDoorNumberValuePx1
import Derived.Test.YthimiidnbnlemaaGreatDoorNumberValuePx8
import Derived.Test.YthimiidnbnlemaaGreatDoorNumberValuePx12
import Derived.Test.YthimiidnbnlemaaGreatDoorNumberValuePx26
namespace Go.Proofs.YthimiidnbnlemaaGreatDoor.P
open Go.RowKit Go.Proofs.YthimiidnbnlemaaGreatDoorW.PrintWords Go.Proofs.YthimiidnbnlemaaGreatDoorW.PrintLast Go.Proofs.YthimiidnbnlemaaGreatDoorW.PrintMore Go.Proofs.YthimiidnbnlemaaGreatDoorX
attribute [local go_sem] max2_int min2_int max_two min_two max_three min_three max_four min_four   -- for this text's walks alone
set_option linter.unusedVariables false
set_option linter.unusedSimpArgs false
attribute [local go_sem high] eqA23
mutual
def abridgerlaw5_NumberValue.j0 : Nat → Int → Int → Int → Int → Bool → Bool → Bool → Bool → Option (Bool)
 | 0, _, _, _, _, _, _, _, _ => none
 | k + 1, x0, x1, x2, x3, x4, x5, x13, x56 => if x56 = true then (some x13) else ((abridgerlaw5_text.f k x0 x2 x4).bind fun t370 => ((number_Read.f k t370).bind fun bt371 => ((abridgerlaw5_text.f k x1 x3 x5).bind fun t376 => ((number_Read.f k t376).bind fun bt377 => (abridgerlaw5_NumberValue.l0 k x2 x3 bt371.2.2.2 bt377.2.2.2 x0 x1 (-5) bt371.1 bt371.2.1 bt371.2.2.1 bt377.1 bt377.2.1 bt377.2.2.1)))))
def abridgerlaw5_NumberValue.l0 : Nat → Int → Int → Bool → Bool → Int → Int → Int → Bool → ByteArray → ByteArray → Bool → ByteArray → ByteArray → Option (Bool)
 | 0, _, _, _, _, _, _, _, _, _, _, _, _, _ => none
 | k + 1, x2, x3, x15, x17, x18, x19, x20, x376000, x376001, x376002, x382000, x382001, x382002 => if x20 < x2 then (abridgerlaw5_NumberValue.l0 k x2 x3 x15 x17 (wrap64 (10 * x18)) x19 (wrap64 (x20 + 1)) x376000 x376001 x376002 x382000 x382001 x382002) else (abridgerlaw5_NumberValue.l1 k x3 x15 x17 x18 x19 (-5) x376000 x376001 x376002 x382000 x382001 x382002)
def abridgerlaw5_NumberValue.l1 : Nat → Int → Bool → Bool → Int → Int → Int → Bool → ByteArray → ByteArray → Bool → ByteArray → ByteArray → Option (Bool)
 | 0, _, _, _, _, _, _, _, _, _, _, _, _ => none
 | k + 1, x3, x15, x17, x18, x19, x21, x376000, x376001, x376002, x382000, x382001, x382002 => if x21 < x3 then (abridgerlaw5_NumberValue.l1 k x3 x15 x17 x18 (wrap64 (10 * x19)) (wrap64 (x21 + 1)) x376000 x376001 x376002 x382000 x382001 x382002) else (if x15 = true then (if x17 = true then (some ((x376000 == x382000 && (x376001.toList == x382001.toList && (x376002.toList == x382002.toList))) == (x18 == x19))) else (some false)) else (some false))
end
def abridgerlaw5_NumberValue.f (k : Nat) (a0 : Int) (a1 : Int) (a2 : Int) (a3 : Int) (a4 : Bool) (a5 : Bool) : Option (Bool) := (abridgerlaw5_alive.f k).bind fun t369 => (if t369 = true then (if a0 < 0 then (abridgerlaw5_NumberValue.j0 k a0 a1 a2 a3 a4 a5 t369 true) else (if a0 > 99999 then (abridgerlaw5_NumberValue.j0 k a0 a1 a2 a3 a4 a5 t369 true) else (if a1 < 0 then (abridgerlaw5_NumberValue.j0 k a0 a1 a2 a3 a4 a5 t369 true) else (if a1 > 99999 then (abridgerlaw5_NumberValue.j0 k a0 a1 a2 a3 a4 a5 t369 true) else (if a2 < (-5) then (abridgerlaw5_NumberValue.j0 k a0 a1 a2 a3 a4 a5 t369 true) else (if a2 > 5 then (abridgerlaw5_NumberValue.j0 k a0 a1 a2 a3 a4 a5 t369 true) else (if a3 < (-5) then (abridgerlaw5_NumberValue.j0 k a0 a1 a2 a3 a4 a5 t369 true) else (abridgerlaw5_NumberValue.j0 k a0 a1 a2 a3 a4 a5 t369 (decide (a3 > 5)))))))))) else (abridgerlaw5_NumberValue.j0 k a0 a1 a2 a3 a4 a5 t369 true))
theorem abridgerlaw5_NumberValue.mono_l : ∀ k, (∀ y0 y1 y2 y3 y4 y5 y6 y7, LeO (abridgerlaw5_NumberValue.j0 k y0 y1 y2 y3 y4 y5 y6 y7) (abridgerlaw5_NumberValue.j0 (k + 1) y0 y1 y2 y3 y4 y5 y6 y7)) ∧ (∀ y0 y1 y2 y3 y4 y5 y6 y7 y8 y9 y10 y11 y12, LeO (abridgerlaw5_NumberValue.l0 k y0 y1 y2 y3 y4 y5 y6 y7 y8 y9 y10 y11 y12) (abridgerlaw5_NumberValue.l0 (k + 1) y0 y1 y2 y3 y4 y5 y6 y7 y8 y9 y10 y11 y12)) ∧ (∀ y0 y1 y2 y3 y4 y5 y6 y7 y8 y9 y10 y11, LeO (abridgerlaw5_NumberValue.l1 k y0 y1 y2 y3 y4 y5 y6 y7 y8 y9 y10 y11) (abridgerlaw5_NumberValue.l1 (k + 1) y0 y1 y2 y3 y4 y5 y6 y7 y8 y9 y10 y11))
 | 0 => ⟨fun _ _ _ _ _ _ _ _ r h => by simp [abridgerlaw5_NumberValue.j0] at h, fun _ _ _ _ _ _ _ _ _ _ _ _ _ r h => by simp [abridgerlaw5_NumberValue.l0] at h, fun _ _ _ _ _ _ _ _ _ _ _ _ r h => by simp [abridgerlaw5_NumberValue.l1] at h⟩
 | k + 1 => by
  obtain ⟨ih0, ih1, ih2⟩ := abridgerlaw5_NumberValue.mono_l k
  refine ⟨?_, ?_, ?_⟩
  ·intro y0 y1 y2 y3 y4 y5 y6 y7
   unfold abridgerlaw5_NumberValue.j0
   repeat' first
   | (with_reducible exact ih0 _ _ _ _ _ _ _ _)
   | (with_reducible exact ih1 _ _ _ _ _ _ _ _ _ _ _ _ _)
   | (with_reducible exact ih2 _ _ _ _ _ _ _ _ _ _ _ _)
   | (with_reducible exact abridgerlaw5_alive.mono _)
   | (with_reducible exact abridgerlaw5_text.mono _ _ _ _)
   | (with_reducible exact number_Read.mono _ _)
   | (with_reducible exact LeO.refl _)
   | (with_reducible exact LeO.none _)
   | (with_reducible refine LeO.ite ?_ ?_)
   | (with_reducible refine LeO.bind ?_ (fun _ => ?_))
   | exact ih0 _ _ _ _ _ _ _ _
   | exact ih1 _ _ _ _ _ _ _ _ _ _ _ _ _
   | exact ih2 _ _ _ _ _ _ _ _ _ _ _ _
   | exact abridgerlaw5_alive.mono _
   | exact abridgerlaw5_text.mono _ _ _ _
   | exact number_Read.mono _ _
   | exact LeO.none _
   | refine LeO.ite ?_ ?_
   | refine LeO.bind ?_ (fun _ => ?_)
  ·intro y0 y1 y2 y3 y4 y5 y6 y7 y8 y9 y10 y11 y12
   unfold abridgerlaw5_NumberValue.l0
   repeat' first
   | (with_reducible exact ih0 _ _ _ _ _ _ _ _)
   | (with_reducible exact ih1 _ _ _ _ _ _ _ _ _ _ _ _ _)
   | (with_reducible exact ih2 _ _ _ _ _ _ _ _ _ _ _ _)
   | (with_reducible exact abridgerlaw5_alive.mono _)
   | (with_reducible exact abridgerlaw5_text.mono _ _ _ _)
   | (with_reducible exact number_Read.mono _ _)
   | (with_reducible exact LeO.refl _)
   | (with_reducible exact LeO.none _)
   | (with_reducible refine LeO.ite ?_ ?_)
   | (with_reducible refine LeO.bind ?_ (fun _ => ?_))
   | exact ih0 _ _ _ _ _ _ _ _
   | exact ih1 _ _ _ _ _ _ _ _ _ _ _ _ _
   | exact ih2 _ _ _ _ _ _ _ _ _ _ _ _
   | exact abridgerlaw5_alive.mono _
   | exact abridgerlaw5_text.mono _ _ _ _
   | exact number_Read.mono _ _
   | exact LeO.none _
   | refine LeO.ite ?_ ?_
   | refine LeO.bind ?_ (fun _ => ?_)
  ·intro y0 y1 y2 y3 y4 y5 y6 y7 y8 y9 y10 y11
   unfold abridgerlaw5_NumberValue.l1
   repeat' first
   | (with_reducible exact ih0 _ _ _ _ _ _ _ _)
   | (with_reducible exact ih1 _ _ _ _ _ _ _ _ _ _ _ _ _)
   | (with_reducible exact ih2 _ _ _ _ _ _ _ _ _ _ _ _)
   | (with_reducible exact abridgerlaw5_alive.mono _)
   | (with_reducible exact abridgerlaw5_text.mono _ _ _ _)
   | (with_reducible exact number_Read.mono _ _)
   | (with_reducible exact LeO.refl _)
   | (with_reducible exact LeO.none _)
   | (with_reducible refine LeO.ite ?_ ?_)
   | (with_reducible refine LeO.bind ?_ (fun _ => ?_))
   | exact ih0 _ _ _ _ _ _ _ _
   | exact ih1 _ _ _ _ _ _ _ _ _ _ _ _ _
   | exact ih2 _ _ _ _ _ _ _ _ _ _ _ _
   | exact abridgerlaw5_alive.mono _
   | exact abridgerlaw5_text.mono _ _ _ _
   | exact number_Read.mono _ _
   | exact LeO.none _
   | refine LeO.ite ?_ ?_
   | refine LeO.bind ?_ (fun _ => ?_)
theorem abridgerlaw5_NumberValue.mono : ∀ a0 a1 a2 a3 a4 a5 k, LeO (abridgerlaw5_NumberValue.f k a0 a1 a2 a3 a4 a5) (abridgerlaw5_NumberValue.f (k + 1) a0 a1 a2 a3 a4 a5) := by
 intro a0 a1 a2 a3 a4 a5 k
 obtain ⟨ih0, ih1, ih2⟩ := abridgerlaw5_NumberValue.mono_l k
 unfold abridgerlaw5_NumberValue.f
 repeat' first
   | (with_reducible exact ih0 _ _ _ _ _ _ _ _)
   | (with_reducible exact ih1 _ _ _ _ _ _ _ _ _ _ _ _ _)
   | (with_reducible exact ih2 _ _ _ _ _ _ _ _ _ _ _ _)
   | (with_reducible exact abridgerlaw5_alive.mono _)
   | (with_reducible exact abridgerlaw5_text.mono _ _ _ _)
   | (with_reducible exact number_Read.mono _ _)
   | (with_reducible exact LeO.refl _)
   | (with_reducible exact LeO.none _)
   | (with_reducible refine LeO.ite ?_ ?_)
   | (with_reducible refine LeO.bind ?_ (fun _ => ?_))
   | exact ih0 _ _ _ _ _ _ _ _
   | exact ih1 _ _ _ _ _ _ _ _ _ _ _ _ _
   | exact ih2 _ _ _ _ _ _ _ _ _ _ _ _
   | exact abridgerlaw5_alive.mono _
   | exact abridgerlaw5_text.mono _ _ _ _
   | exact number_Read.mono _ _
   | exact LeO.none _
   | refine LeO.ite ?_ ?_
   | refine LeO.bind ?_ (fun _ => ?_)
set_option maxHeartbeats 8000000 in
set_option maxRecDepth 100000 in
theorem abridgerlaw5_NumberValue.calls (k : Nat) (a0 : Int) (a1 : Int) (a2 : Int) (a3 : Int) (a4 : Bool) (a5 : Bool) (r : Bool) (w : World) (hL : LaidW w) (h : abridgerlaw5_NumberValue.f k a0 a1 a2 a3 a4 a5 = some r) :
  Calls Tryz.prog 6 #[.int .i64 a0, .int .i64 a1, .int .i64 a2, .int .i64 a3, .bool a4, .bool a5] w fun e w' => e = .returned (.bool r) ∧ Below w.heap.size w w' := by
 have hu23 := Tryz.underlying23
 have HB := Aside0.mk (Below.refl w.heap.size w)
 have H : ((abridgerlaw5_alive.f k).bind fun t369 => (if t369 = true then (if a0 < 0 then (abridgerlaw5_NumberValue.j0 k a0 a1 a2 a3 a4 a5 t369 true) else (if a0 > 99999 then (abridgerlaw5_NumberValue.j0 k a0 a1 a2 a3 a4 a5 t369 true) else (if a1 < 0 then (abridgerlaw5_NumberValue.j0 k a0 a1 a2 a3 a4 a5 t369 true) else (if a1 > 99999 then (abridgerlaw5_NumberValue.j0 k a0 a1 a2 a3 a4 a5 t369 true) else (if a2 < (-5) then (abridgerlaw5_NumberValue.j0 k a0 a1 a2 a3 a4 a5 t369 true) else (if a2 > 5 then (abridgerlaw5_NumberValue.j0 k a0 a1 a2 a3 a4 a5 t369 true) else (if a3 < (-5) then (abridgerlaw5_NumberValue.j0 k a0 a1 a2 a3 a4 a5 t369 true) else (abridgerlaw5_NumberValue.j0 k a0 a1 a2 a3 a4 a5 t369 (decide (a3 > 5)))))))))) else (abridgerlaw5_NumberValue.j0 k a0 a1 a2 a3 a4 a5 t369 true))) = some r := h
 clear h
 replace H := Option.bind_eq_some_iff.mp H
 obtain ⟨t369, A70, H⟩ := H
 replace H : (if t369 = true then (if a0 < 0 then (abridgerlaw5_NumberValue.j0 k a0 a1 a2 a3 a4 a5 t369 true) else (if a0 > 99999 then (abridgerlaw5_NumberValue.j0 k a0 a1 a2 a3 a4 a5 t369 true) else (if a1 < 0 then (abridgerlaw5_NumberValue.j0 k a0 a1 a2 a3 a4 a5 t369 true) else (if a1 > 99999 then (abridgerlaw5_NumberValue.j0 k a0 a1 a2 a3 a4 a5 t369 true) else (if a2 < (-5) then (abridgerlaw5_NumberValue.j0 k a0 a1 a2 a3 a4 a5 t369 true) else (if a2 > 5 then (abridgerlaw5_NumberValue.j0 k a0 a1 a2 a3 a4 a5 t369 true) else (if a3 < (-5) then (abridgerlaw5_NumberValue.j0 k a0 a1 a2 a3 a4 a5 t369 true) else (abridgerlaw5_NumberValue.j0 k a0 a1 a2 a3 a4 a5 t369 (decide (a3 > 5)))))))))) else (abridgerlaw5_NumberValue.j0 k a0 a1 a2 a3 a4 a5 t369 true)) = some r := H
 have A7 := Aside0.mk A70
 clear A70
 have HC8 := Aside0.mk H
 clear H
 go_enter Tryz.func6, Tryz.ntmps6
 go_upto_region 2 with (first | ((with_reducible refine gate_callee (f := 7) rfl ?_); refine goesL_ (some 22) rfl rfl Tryz.func7 (by kernel_rfl) rfl #[] rfl (by (try simp only [List.map_toArray, List.map_cons, List.map_nil]); first | done | rfl | (simp only [List.length_drop, List.length_take]; rfl)) ?_; (with_reducible refine (abridgerlaw5_alive.calls k  t369 _ ?side1 A7.out).mono ?_); (case side1 => first | exact hL | exact LaidW.below hL (by repeat (first | (with_reducible first | exact HB.out | apply below_alloc | apply pw_below_drewN | apply below_drew1) | exact HB.out)) | (repeat (first | exact hL | apply LaidW.drewN | apply LaidW.drew))); rintro e w9 ⟨rfl, hb⟩; refine ⟨_, rfl, ?_⟩; have n0_ := Aside0.mk (below_step (by repeat (first | (with_reducible first | exact HB.out | apply below_alloc | apply pw_below_drewN | apply below_drew1) | exact HB.out)) hb); clear HB; have HB := n0_; clear n0_; (try clear hb); (try clear hb2); (try clear hk); (try clear hi)))
 (try simp only [Act.put, List.setIfInBounds_toArray, List.set_cons_zero, List.set_cons_succ])
 go_cut [56] (fun v56 wc => ∃ (kq : Nat) (x56_7 : Bool), v56 = .bool x56_7 ∧ Aside0 (abridgerlaw5_NumberValue.j0 kq a0 a1 a2 a3 a4 a5 t369 x56_7 = some r) ∧ Aside0 (kq ≤ k) ∧ Aside0 (Below w.heap.size w wc))
 case first =>
  have H := HC8.out
  clear HC8
  by_cases c10 : t369 = true
  ·subst c10
   have H1 : (if a0 < 0 then (abridgerlaw5_NumberValue.j0 k a0 a1 a2 a3 a4 a5 true true) else (if a0 > 99999 then (abridgerlaw5_NumberValue.j0 k a0 a1 a2 a3 a4 a5 true true) else (if a1 < 0 then (abridgerlaw5_NumberValue.j0 k a0 a1 a2 a3 a4 a5 true true) else (if a1 > 99999 then (abridgerlaw5_NumberValue.j0 k a0 a1 a2 a3 a4 a5 true true) else (if a2 < (-5) then (abridgerlaw5_NumberValue.j0 k a0 a1 a2 a3 a4 a5 true true) else (if a2 > 5 then (abridgerlaw5_NumberValue.j0 k a0 a1 a2 a3 a4 a5 true true) else (if a3 < (-5) then (abridgerlaw5_NumberValue.j0 k a0 a1 a2 a3 a4 a5 true true) else (abridgerlaw5_NumberValue.j0 k a0 a1 a2 a3 a4 a5 true (decide (a3 > 5)))))))))) = some r := by rw [if_pos rfl] at H; exact H
   clear H
   have H := H1
   clear H1
   by_cases c11 : a0 < 0
   ·rw [if_pos c11] at H
    have c11b0 : decide (a0 < 0) = true := decide_eq_true c11
    clear c11
    (first | rw [c11b0] | (simp only [i64_w, i32_w]; rw [c11b0]) | skip)
    have H' := Aside0.mk H
    clear H
    go_wp2
    go_meet
    case rel => exact ⟨_, (true), (by first | rfl | (simp; done) | (simp [bne_nil_]; done) | (simp [*]; done) | (simp [wrap64]; done) | (refine congrArg (Value.int .i64) ?_; unfold wrap64; omega)), H', ⟨by first | omega | exact Nat.le_refl _⟩, ⟨by repeat (first | (with_reducible first | exact HB.out | apply below_alloc | apply pw_below_drewN | apply below_drew1) | exact HB.out)⟩⟩
   ·rw [if_neg c11] at H
    have c11b0 : decide (a0 < 0) = false := decide_eq_false c11
    clear c11
    (first | rw [c11b0] | (simp only [i64_w, i32_w]; rw [c11b0]) | skip)
    by_cases c12 : a0 > 99999
    ·rw [if_pos c12] at H
     have c12b0 : decide (99999 < a0) = true := decide_eq_true c12
     clear c12
     have H' := Aside0.mk H
     clear H
     go_wp2
     go_meet
     case rel => exact ⟨_, (true), (by first | rfl | (simp; done) | (simp [bne_nil_]; done) | (simp [*]; done) | (simp [wrap64]; done) | (refine congrArg (Value.int .i64) ?_; unfold wrap64; omega)), H', ⟨by first | omega | exact Nat.le_refl _⟩, ⟨by repeat (first | (with_reducible first | exact HB.out | apply below_alloc | apply pw_below_drewN | apply below_drew1) | exact HB.out)⟩⟩
    ·rw [if_neg c12] at H
     have c12b0 : decide (99999 < a0) = false := decide_eq_false c12
     clear c12
     by_cases c13 : a1 < 0
     ·rw [if_pos c13] at H
      have c13b0 : decide (a1 < 0) = true := decide_eq_true c13
      clear c13
      have H' := Aside0.mk H
      clear H
      go_wp2
      go_meet
      case rel => exact ⟨_, (true), (by first | rfl | (simp; done) | (simp [bne_nil_]; done) | (simp [*]; done) | (simp [wrap64]; done) | (refine congrArg (Value.int .i64) ?_; unfold wrap64; omega)), H', ⟨by first | omega | exact Nat.le_refl _⟩, ⟨by repeat (first | (with_reducible first | exact HB.out | apply below_alloc | apply pw_below_drewN | apply below_drew1) | exact HB.out)⟩⟩
     ·rw [if_neg c13] at H
      have c13b0 : decide (a1 < 0) = false := decide_eq_false c13
      clear c13
      by_cases c14 : a1 > 99999
      ·rw [if_pos c14] at H
       have c14b0 : decide (99999 < a1) = true := decide_eq_true c14
       clear c14
       have H' := Aside0.mk H
       clear H
       go_wp2
       go_meet
       case rel => exact ⟨_, (true), (by first | rfl | (simp; done) | (simp [bne_nil_]; done) | (simp [*]; done) | (simp [wrap64]; done) | (refine congrArg (Value.int .i64) ?_; unfold wrap64; omega)), H', ⟨by first | omega | exact Nat.le_refl _⟩, ⟨by repeat (first | (with_reducible first | exact HB.out | apply below_alloc | apply pw_below_drewN | apply below_drew1) | exact HB.out)⟩⟩
      ·rw [if_neg c14] at H
       have c14b0 : decide (99999 < a1) = false := decide_eq_false c14
       clear c14
       by_cases c15 : a2 < (-5)
       ·rw [if_pos c15] at H
        have c15b0 : decide (a2 < (-5)) = true := decide_eq_true c15
        clear c15
        have H' := Aside0.mk H
        clear H
        go_wp2
        go_meet
        case rel => exact ⟨_, (true), (by first | rfl | (simp; done) | (simp [bne_nil_]; done) | (simp [*]; done) | (simp [wrap64]; done) | (refine congrArg (Value.int .i64) ?_; unfold wrap64; omega)), H', ⟨by first | omega | exact Nat.le_refl _⟩, ⟨by repeat (first | (with_reducible first | exact HB.out | apply below_alloc | apply pw_below_drewN | apply below_drew1) | exact HB.out)⟩⟩
       ·rw [if_neg c15] at H
        have c15b0 : decide (a2 < (-5)) = false := decide_eq_false c15
        clear c15
        by_cases c16 : a2 > 5
        ·rw [if_pos c16] at H
         have c16b0 : decide (5 < a2) = true := decide_eq_true c16
         clear c16
         have H' := Aside0.mk H
         clear H
         go_wp2
         go_meet
         case rel => exact ⟨_, (true), (by first | rfl | (simp; done) | (simp [bne_nil_]; done) | (simp [*]; done) | (simp [wrap64]; done) | (refine congrArg (Value.int .i64) ?_; unfold wrap64; omega)), H', ⟨by first | omega | exact Nat.le_refl _⟩, ⟨by repeat (first | (with_reducible first | exact HB.out | apply below_alloc | apply pw_below_drewN | apply below_drew1) | exact HB.out)⟩⟩
        ·rw [if_neg c16] at H
         have c16b0 : decide (5 < a2) = false := decide_eq_false c16
         clear c16
         by_cases c17 : a3 < (-5)
         ·rw [if_pos c17] at H
          have c17b0 : decide (a3 < (-5)) = true := decide_eq_true c17
          clear c17
          have H' := Aside0.mk H
          clear H
          go_wp2
          go_meet
          case rel => exact ⟨_, (true), (by first | rfl | (simp; done) | (simp [bne_nil_]; done) | (simp [*]; done) | (simp [wrap64]; done) | (refine congrArg (Value.int .i64) ?_; unfold wrap64; omega)), H', ⟨by first | omega | exact Nat.le_refl _⟩, ⟨by repeat (first | (with_reducible first | exact HB.out | apply below_alloc | apply pw_below_drewN | apply below_drew1) | exact HB.out)⟩⟩
         ·rw [if_neg c17] at H
          have c17b0 : decide (a3 < (-5)) = false := decide_eq_false c17
          clear c17
          have H' := Aside0.mk H
          clear H
          go_wp2
          go_meet
          case rel => exact ⟨_, (decide (a3 > 5)), (by first | rfl | (simp; done) | (simp [bne_nil_]; done) | (simp [*]; done) | (simp [wrap64]; done) | (refine congrArg (Value.int .i64) ?_; unfold wrap64; omega)), H', ⟨by first | omega | exact Nat.le_refl _⟩, ⟨by repeat (first | (with_reducible first | exact HB.out | apply below_alloc | apply pw_below_drewN | apply below_drew1) | exact HB.out)⟩⟩
  ·replace c10 := Bool.eq_false_iff.mpr c10
   subst c10
   have H1 : (abridgerlaw5_NumberValue.j0 k a0 a1 a2 a3 a4 a5 false true) = some r := by rw [if_neg (show ¬ (false = true) by decide)] at H; exact H
   clear H
   have H := H1
   clear H1
   have H' := Aside0.mk H
   clear H
   go_wp2
   go_meet
   case rel => exact ⟨_, (true), (by first | rfl | (simp; done) | (simp [bne_nil_]; done) | (simp [*]; done) | (simp [wrap64]; done) | (refine congrArg (Value.int .i64) ?_; unfold wrap64; omega)), H', ⟨by first | omega | exact Nat.le_refl _⟩, ⟨by repeat (first | (with_reducible first | exact HB.out | apply below_alloc | apply pw_below_drewN | apply below_drew1) | exact HB.out)⟩⟩
 case rest =>
  clear HC8
  try clear c1
  try clear p2
  try clear c6
  try clear p6
  try clear c7
  try clear c10
  try clear c11
  try clear c11b0
  try clear c12
  try clear c12b0
  try clear c13
  try clear c13b0
  try clear c14
  try clear c14b0
  try clear c15
  try clear c15b0
  try clear c16
  try clear c16b0
  try clear c17
  try clear c17b0
  obtain ⟨kq, x56_7, rfl, HA, HJ7, HB⟩ := hcut
  cases kq with
  | zero => exact absurd HA.out (by simp [abridgerlaw5_NumberValue.j0])
  | succ kj7 =>
   have H := HA.out
   clear HA
   simp only [abridgerlaw5_NumberValue.j0] at H
   by_cases c18 : x56_7 = true
   ·subst c18
    have H1 : (some t369) = some r := by rw [if_pos rfl] at H; exact H
    clear H
    have H := H1
    clear H1
    obtain rfl := Option.some.inj H
    go_wp2
    go_ret
    exact ⟨by first | rfl | (simp [errW_none, errW_some] <;> rfl) | (simp [*, errW_none, errW_some] <;> rfl), by repeat (first | (with_reducible first | exact HB.out | apply below_alloc | apply pw_below_drewN | apply below_drew1) | exact HB.out)⟩
   ·replace c18 := Bool.eq_false_iff.mpr c18
    subst c18
    have H1 : ((abridgerlaw5_text.f kj7 a0 a2 a4).bind fun t370 => ((number_Read.f kj7 t370).bind fun bt371 => ((abridgerlaw5_text.f kj7 a1 a3 a5).bind fun t376 => ((number_Read.f kj7 t376).bind fun bt377 => (abridgerlaw5_NumberValue.l0 kj7 a2 a3 bt371.2.2.2 bt377.2.2.2 a0 a1 (-5) bt371.1 bt371.2.1 bt371.2.2.1 bt377.1 bt377.2.1 bt377.2.2.1))))) = some r := by rw [if_neg (show ¬ (false = true) by decide)] at H; exact H
    clear H
    have H := H1
    clear H1
    replace H := Option.bind_eq_some_iff.mp H
    obtain ⟨t370, A190, H⟩ := H
    replace H : ((number_Read.f kj7 t370).bind fun bt371 => ((abridgerlaw5_text.f kj7 a1 a3 a5).bind fun t376 => ((number_Read.f kj7 t376).bind fun bt377 => (abridgerlaw5_NumberValue.l0 kj7 a2 a3 bt371.2.2.2 bt377.2.2.2 a0 a1 (-5) bt371.1 bt371.2.1 bt371.2.2.1 bt377.1 bt377.2.1 bt377.2.2.1)))) = some r := H
    have A19 := Aside0.mk A190
    clear A190
    replace H := Option.bind_eq_some_iff.mp H
    obtain ⟨⟨t371, t372, t373, t374⟩, A200, H⟩ := H
    replace H : ((abridgerlaw5_text.f kj7 a1 a3 a5).bind fun t376 => ((number_Read.f kj7 t376).bind fun bt377 => (abridgerlaw5_NumberValue.l0 kj7 a2 a3 t374 bt377.2.2.2 a0 a1 (-5) t371 t372 t373 bt377.1 bt377.2.1 bt377.2.2.1))) = some r := H
    have A20 := Aside0.mk A200
    clear A200
    replace H := Option.bind_eq_some_iff.mp H
    obtain ⟨t376, A210, H⟩ := H
    replace H : ((number_Read.f kj7 t376).bind fun bt377 => (abridgerlaw5_NumberValue.l0 kj7 a2 a3 t374 bt377.2.2.2 a0 a1 (-5) t371 t372 t373 bt377.1 bt377.2.1 bt377.2.2.1)) = some r := H
    have A21 := Aside0.mk A210
    clear A210
    replace H := Option.bind_eq_some_iff.mp H
    obtain ⟨⟨t377, t378, t379, t380⟩, A220, H⟩ := H
    replace H : (abridgerlaw5_NumberValue.l0 kj7 a2 a3 t374 t380 a0 a1 (-5) t371 t372 t373 t377 t378 t379) = some r := H
    have A22 := Aside0.mk A220
    clear A220
    have H' := Aside0.mk H
    clear H
    go_wp2_with (first | ((with_reducible refine gate_callee (f := 17) rfl ?_); refine goesL_ (some 62) rfl rfl Tryz.func17 (by kernel_rfl) rfl #[.int .i64 a0, .int .i64 a2, .bool a4] rfl (by (try simp only [List.map_toArray, List.map_cons, List.map_nil]); first | done | rfl | (simp only [List.length_drop, List.length_take]; rfl)) ?_; (with_reducible refine (abridgerlaw5_text.calls kj7 a0 a2 a4 t370 _ A19.out).mono ?_); rintro e w' ⟨rfl, ⟨nd, rfl⟩⟩; refine ⟨_, rfl, ?_⟩; (try (rw [drewN_self wc]; generalize hq_ : World.drewN wc _ = wc; have n0_ : Aside0 (Below w.heap.size w wc) := ⟨by rw [← hq_]; exact (by repeat (first | (with_reducible first | exact HB.out | apply below_alloc | apply pw_below_drewN | apply below_drew1) | exact HB.out))⟩; clear HB hq_; have HB := n0_; clear n0_))) | ((with_reducible refine gate_callee (f := 8) rfl ?_); refine goesL_ (some 63) rfl rfl Tryz.func8 (by kernel_rfl) rfl #[.string t370] rfl (by (try simp only [List.map_toArray, List.map_cons, List.map_nil]); first | done | rfl | (simp only [List.length_drop, List.length_take]; rfl)) ?_; (with_reducible refine (number_Read.calls kj7 t370 t371 t372 t373 t374 _ ?side1 A20.out).mono ?_); (case side1 => first | exact hL | exact LaidW.below hL (by repeat (first | (with_reducible first | exact HB.out | apply below_alloc | apply pw_below_drewN | apply below_drew1) | exact HB.out)) | (repeat (first | exact hL | apply LaidW.drewN | apply LaidW.drew))); rintro e w23 ⟨rfl, hb⟩; refine ⟨_, rfl, ?_⟩; have n0_ := Aside0.mk (below_step (by repeat (first | (with_reducible first | exact HB.out | apply below_alloc | apply pw_below_drewN | apply below_drew1) | exact HB.out)) hb); clear HB; have HB := n0_; clear n0_; (try clear hb); (try clear hb2); (try clear hk); (try clear hi)) | ((with_reducible refine gate_dst (N := 14) rfl ?_); refine box_event ?hg (N := 14) ?hd (cs := #[.bool false, .string (⟨#[]⟩ : ByteArray), .string (⟨#[]⟩ : ByteArray)]) (t := 23) ?hr ?_; (case hd => rfl); (case hg => rfl); (case hr => first | (go_simp; done) | (go_simp; rfl)); intro gb375 hg w24 hbox hb; have n0_ := Aside0.mk (below_step (by repeat (first | (with_reducible first | exact HB.out | apply below_alloc | apply pw_below_drewN | apply below_drew1) | exact HB.out)) hb); have n1_ := Aside0.mk (hbox); have n2_ := Aside0.mk ((by rw [hg]; exact (below_size (by repeat (first | (with_reducible first | exact HB.out | apply below_alloc | apply pw_below_drewN | apply below_drew1) | exact HB.out))) : w.heap.size ≤ gb375)); have n3_ := Aside0.mk ((by rw [hg]; exact (below_size (by repeat (first | (with_reducible first | exact HB.out | apply below_alloc | apply pw_below_drewN | apply below_drew1) | exact HB.out))) : w.heap.size ≤ gb375)); clear HB; have HB := n0_; have BK375 := n1_; have GW375 := n2_; have GE375 := n3_; clear n0_ n1_ n2_ n3_; clear hb hbox hg; have hcz25_0 : w24.cell? ⟨gb375, 0, none⟩ = some (.bool false) := (blk_cell BK375.out 0).trans rfl; have hcz25_1 : w24.cell? ⟨gb375, 1, none⟩ = some (.string (⟨#[]⟩ : ByteArray)) := (blk_cell BK375.out 1).trans rfl; have hcz25_2 : w24.cell? ⟨gb375, 2, none⟩ = some (.string (⟨#[]⟩ : ByteArray)) := (blk_cell BK375.out 2).trans rfl; have hfz25_0 := blk_frozen BK375.out 0; have hfz25_1 := blk_frozen BK375.out 1; have hfz25_2 := blk_frozen BK375.out 2) | ((with_reducible refine gate_callee (f := 17) rfl ?_); refine goesL_ (some 70) rfl rfl Tryz.func17 (by kernel_rfl) rfl #[.int .i64 a1, .int .i64 a3, .bool a5] rfl (by (try simp only [List.map_toArray, List.map_cons, List.map_nil]); first | done | rfl | (simp only [List.length_drop, List.length_take]; rfl)) ?_; (with_reducible refine (abridgerlaw5_text.calls kj7 a1 a3 a5 t376 _ A21.out).mono ?_); rintro e w' ⟨rfl, ⟨nd, rfl⟩⟩; refine ⟨_, rfl, ?_⟩) | ((with_reducible refine gate_callee (f := 8) rfl ?_); refine goesL_ (some 71) rfl rfl Tryz.func8 (by kernel_rfl) rfl #[.string t376] rfl (by (try simp only [List.map_toArray, List.map_cons, List.map_nil]); first | done | rfl | (simp only [List.length_drop, List.length_take]; rfl)) ?_; (with_reducible refine (number_Read.calls kj7 t376 t377 t378 t379 t380 _ ?side1 A22.out).mono ?_); (case side1 => first | exact hL | exact LaidW.below hL (by repeat (first | (with_reducible first | exact HB.out | apply below_alloc | apply pw_below_drewN | apply below_drew1 | refine below_set ?_ GE375.out) | exact HB.out)) | (repeat (first | exact hL | apply LaidW.drewN | apply LaidW.drew))); rintro e w26 ⟨rfl, hb⟩; refine ⟨_, rfl, ?_⟩; have n0_ := Aside0.mk (blk_below (g := gb375) (o := .cells #[.bool t371, .string t372, .string t373] 23 (0, 0)) (by (with_reducible repeat (first | refine blk_drewN ?_ _ | refine blk_drew ?_ | refine blk_alloc ?_ _)); refine blk_put (cs := #[.bool t371, .string t372, .string (⟨#[]⟩ : ByteArray)]) ?_ 2 _ rfl; (with_reducible repeat (first | refine blk_drewN ?_ _ | refine blk_drew ?_ | refine blk_alloc ?_ _)); refine blk_put (cs := #[.bool t371, .string (⟨#[]⟩ : ByteArray), .string (⟨#[]⟩ : ByteArray)]) ?_ 1 _ rfl; (with_reducible repeat (first | refine blk_drewN ?_ _ | refine blk_drew ?_ | refine blk_alloc ?_ _)); refine blk_put (cs := #[.bool false, .string (⟨#[]⟩ : ByteArray), .string (⟨#[]⟩ : ByteArray)]) ?_ 0 _ rfl; (with_reducible repeat (first | refine blk_drewN ?_ _ | refine blk_drew ?_ | refine blk_alloc ?_ _)); exact BK375.out) hb); have n1_ := Aside0.mk (below_step (by repeat (first | (with_reducible first | exact HB.out | apply below_alloc | apply pw_below_drewN | apply below_drew1 | refine below_set ?_ GE375.out) | exact HB.out)) hb); clear BK375; clear HB; have BK375 := n0_; have HB := n1_; clear n0_ n1_; (try clear hb); (try clear hb2); (try clear hk); (try clear hi)) | ((with_reducible refine gate_dst (N := 16) rfl ?_); refine box_event ?hg (N := 16) ?hd (cs := #[.bool false, .string (⟨#[]⟩ : ByteArray), .string (⟨#[]⟩ : ByteArray)]) (t := 23) ?hr ?_; (case hd => rfl); (case hg => rfl); (case hr => first | (go_simp; done) | (go_simp; rfl)); intro gb381 hg w27 hbox hb; have n0_ := Aside0.mk (blk_below (g := gb375) (o := .cells #[.bool t371, .string t372, .string t373] 23 (0, 0)) (by (with_reducible repeat (first | refine blk_drewN ?_ _ | refine blk_drew ?_ | refine blk_alloc ?_ _)); exact BK375.out) hb); have n1_ := Aside0.mk (below_step (by repeat (first | (with_reducible first | exact HB.out | apply below_alloc | apply pw_below_drewN | apply below_drew1 | refine below_set ?_ GE375.out) | exact HB.out)) hb); have n2_ := Aside0.mk (hbox); have n3_ := Aside0.mk ((by rw [hg]; exact (below_size (by repeat (first | (with_reducible first | exact HB.out | apply below_alloc | apply pw_below_drewN | apply below_drew1 | refine below_set ?_ GE375.out) | exact HB.out))) : w.heap.size ≤ gb381)); have n4_ := Aside0.mk ((by rw [hg]; exact (below_size (by repeat (first | (with_reducible first | exact HB.out | apply below_alloc | apply pw_below_drewN | apply below_drew1 | refine below_set ?_ GE375.out) | exact HB.out))) : w.heap.size ≤ gb381)); have n5_ := Aside0.mk ((by rw [hg]; exact Nat.ne_of_lt (blk_lt (g := gb375) (o := .cells #[.bool t371, .string t372, .string t373] 23 (0, 0)) (by (with_reducible repeat (first | refine blk_drewN ?_ _ | refine blk_drew ?_ | refine blk_alloc ?_ _)); exact BK375.out)) : gb375 ≠ gb381)); have n6_ := Aside0.mk ((by rw [hg]; exact Nat.ne_of_gt (blk_lt (g := gb375) (o := .cells #[.bool t371, .string t372, .string t373] 23 (0, 0)) (by (with_reducible repeat (first | refine blk_drewN ?_ _ | refine blk_drew ?_ | refine blk_alloc ?_ _)); exact BK375.out)) : gb381 ≠ gb375)); clear BK375; clear HB; have BK375 := n0_; have HB := n1_; have BK381 := n2_; have GW381 := n3_; have GE381 := n4_; have NB375_381 := n5_; have NB381_375 := n6_; clear n0_ n1_ n2_ n3_ n4_ n5_ n6_; clear hb hbox hg; have hnb28 := NB381_375.out; have hnc28 := NB375_381.out; have hcz29_0 : w27.cell? ⟨gb381, 0, none⟩ = some (.bool false) := (blk_cell BK381.out 0).trans rfl; have hcz29_1 : w27.cell? ⟨gb381, 1, none⟩ = some (.string (⟨#[]⟩ : ByteArray)) := (blk_cell BK381.out 1).trans rfl; have hcz29_2 : w27.cell? ⟨gb381, 2, none⟩ = some (.string (⟨#[]⟩ : ByteArray)) := (blk_cell BK381.out 2).trans rfl; have hfz29_0 := blk_frozen BK381.out 0; have hfz29_1 := blk_frozen BK381.out 1; have hfz29_2 := blk_frozen BK381.out 2))
    go_loopg [18, 20] kj7 (fun kq v18 v20 w' => ∃ (x18_2 : Int) (x20_2 : Int), v18 = .int .i64 x18_2 ∧ v20 = .int .i64 x20_2 ∧ Aside0 (abridgerlaw5_NumberValue.l0 kq a2 a3 t374 t380 x18_2 a1 x20_2 t371 t372 t373 t377 t378 t379 = some r) ∧ Aside0 (kq ≤ kj7) ∧ Aside0 (w'.heap[gb375]? = some (.cells #[.bool t371, .string t372, .string t373] 23 (0, 0))) ∧ Aside0 (w'.heap[gb381]? = some (.cells #[.bool t377, .string t378, .string t379] 23 (0, 0))) ∧ Aside0 (Below w.heap.size w w'))
    case atStart => exact ⟨(a0), ((-5)), (by first | rfl | (simp; done) | (simp [bne_nil_]; done) | (simp [*]; done) | (simp [wrap64]; done) | (refine congrArg (Value.int .i64) ?_; unfold wrap64; omega)), (by first | rfl | (simp; done) | (simp [bne_nil_]; done) | (simp [*]; done) | (simp [wrap64]; done) | (refine congrArg (Value.int .i64) ?_; unfold wrap64; omega)), H', ⟨Nat.le_refl _⟩, ⟨by (with_reducible repeat (first | refine blk_drewN ?_ _ | refine blk_drew ?_ | refine blk_alloc ?_ _)); refine blk_far ?_ NB375_381.out _; (with_reducible repeat (first | refine blk_drewN ?_ _ | refine blk_drew ?_ | refine blk_alloc ?_ _)); refine blk_far ?_ NB375_381.out _; (with_reducible repeat (first | refine blk_drewN ?_ _ | refine blk_drew ?_ | refine blk_alloc ?_ _)); refine blk_far ?_ NB375_381.out _; (with_reducible repeat (first | refine blk_drewN ?_ _ | refine blk_drew ?_ | refine blk_alloc ?_ _)); exact BK375.out⟩, ⟨by (with_reducible repeat (first | refine blk_drewN ?_ _ | refine blk_drew ?_ | refine blk_alloc ?_ _)); refine blk_put (cs := #[.bool t377, .string t378, .string (⟨#[]⟩ : ByteArray)]) ?_ 2 _ rfl; (with_reducible repeat (first | refine blk_drewN ?_ _ | refine blk_drew ?_ | refine blk_alloc ?_ _)); refine blk_put (cs := #[.bool t377, .string (⟨#[]⟩ : ByteArray), .string (⟨#[]⟩ : ByteArray)]) ?_ 1 _ rfl; (with_reducible repeat (first | refine blk_drewN ?_ _ | refine blk_drew ?_ | refine blk_alloc ?_ _)); refine blk_put (cs := #[.bool false, .string (⟨#[]⟩ : ByteArray), .string (⟨#[]⟩ : ByteArray)]) ?_ 0 _ rfl; (with_reducible repeat (first | refine blk_drewN ?_ _ | refine blk_drew ?_ | refine blk_alloc ?_ _)); exact BK381.out⟩, ⟨by repeat (first | (with_reducible first | exact HB.out | apply below_alloc | apply pw_below_drewN | apply below_drew1 | refine below_set ?_ GE375.out | refine below_set ?_ GE381.out) | exact HB.out)⟩⟩
    case round =>
     clear H'
     try clear c1
     try clear c2
     try clear p2
     try clear c6
     try clear p6
     try clear c7
     try clear c8
     try clear c10
     try clear c11
     try clear c11b0
     try clear c12
     try clear c12b0
     try clear c13
     try clear c13b0
     try clear c14
     try clear c14b0
     try clear c15
     try clear c15b0
     try clear c16
     try clear c16b0
     try clear c17
     try clear c17b0
     try clear c18
     try clear c28
     try clear hcz25_0
     try clear hcz25_1
     try clear hcz25_2
     try clear hcz29_0
     try clear hcz29_1
     try clear hcz29_2
     try clear hfz25_0
     try clear hfz25_1
     try clear hfz25_2
     try clear hfz29_0
     try clear hfz29_1
     try clear hfz29_2
     try clear p2
     try clear p6
     obtain ⟨x18_2, x20_2, rfl, rfl, HA, HK2, BK375, BK381, HB⟩ := hrel
     cases gk with
     | zero => exact absurd HA.out (by simp [abridgerlaw5_NumberValue.l0])
     | succ k2 =>
      have H := HA.out
      clear HA
      simp only [abridgerlaw5_NumberValue.l0] at H
      by_cases c30 : x20_2 < a2
      ·rw [if_pos c30] at H
       have c30b0 : decide (x20_2 < a2) = true := decide_eq_true c30
       clear c30
       have H' := Aside0.mk H
       clear H
       go_wp2
       go_roundg k2
       case measure => have := HJ7.out; have := HK2.out; omega
       case rel => exact ⟨(wrap64 (10 * x18_2)), (wrap64 (x20_2 + 1)), (by first | rfl | (simp; done) | (simp [bne_nil_]; done) | (simp [*]; done) | (simp [wrap64]; done) | (refine congrArg (Value.int .i64) ?_; unfold wrap64; omega)), (by first | rfl | (simp; done) | (simp [bne_nil_]; done) | (simp [*]; done) | (simp [wrap64]; done) | (refine congrArg (Value.int .i64) ?_; unfold wrap64; omega)), H', ⟨by have := HJ7.out; have := HK2.out; omega⟩, ⟨by (with_reducible repeat (first | refine blk_drewN ?_ _ | refine blk_drew ?_ | refine blk_alloc ?_ _)); exact BK375.out⟩, ⟨by (with_reducible repeat (first | refine blk_drewN ?_ _ | refine blk_drew ?_ | refine blk_alloc ?_ _)); exact BK381.out⟩, ⟨by repeat (first | (with_reducible first | exact HB.out | apply below_alloc | apply pw_below_drewN | apply below_drew1 | refine below_set ?_ GE375.out | refine below_set ?_ GE381.out) | exact HB.out)⟩⟩
      ·rw [if_neg c30] at H
       have c30b0 : decide (x20_2 < a2) = false := decide_eq_false c30
       clear c30
       have H' := Aside0.mk H
       clear H
       go_wp2
       go_loopg [19, 21] k2 (fun kq v19 v21 w' => ∃ (x19_3 : Int) (x21_3 : Int), v19 = .int .i64 x19_3 ∧ v21 = .int .i64 x21_3 ∧ Aside0 (abridgerlaw5_NumberValue.l1 kq a3 t374 t380 x18_2 x19_3 x21_3 t371 t372 t373 t377 t378 t379 = some r) ∧ Aside0 (kq ≤ k2) ∧ Aside0 (w'.heap[gb375]? = some (.cells #[.bool t371, .string t372, .string t373] 23 (0, 0))) ∧ Aside0 (w'.heap[gb381]? = some (.cells #[.bool t377, .string t378, .string t379] 23 (0, 0))) ∧ Aside0 (Below w.heap.size w w'))
       case atStart => exact ⟨(a1), ((-5)), (by first | rfl | (simp; done) | (simp [bne_nil_]; done) | (simp [*]; done) | (simp [wrap64]; done) | (refine congrArg (Value.int .i64) ?_; unfold wrap64; omega)), (by first | rfl | (simp; done) | (simp [bne_nil_]; done) | (simp [*]; done) | (simp [wrap64]; done) | (refine congrArg (Value.int .i64) ?_; unfold wrap64; omega)), H', ⟨Nat.le_refl _⟩, ⟨by (with_reducible repeat (first | refine blk_drewN ?_ _ | refine blk_drew ?_ | refine blk_alloc ?_ _)); exact BK375.out⟩, ⟨by (with_reducible repeat (first | refine blk_drewN ?_ _ | refine blk_drew ?_ | refine blk_alloc ?_ _)); exact BK381.out⟩, ⟨by repeat (first | (with_reducible first | exact HB.out | apply below_alloc | apply pw_below_drewN | apply below_drew1 | refine below_set ?_ GE375.out | refine below_set ?_ GE381.out) | exact HB.out)⟩⟩
       case round =>
        clear H'
        try clear c1
        try clear c2
        try clear p2
        try clear c3
        try clear c6
        try clear p6
        try clear c7
        try clear c8
        try clear c10
        try clear c11
        try clear c11b0
        try clear c12
        try clear c12b0
        try clear c13
        try clear c13b0
        try clear c14
        try clear c14b0
        try clear c15
        try clear c15b0
        try clear c16
        try clear c16b0
        try clear c17
        try clear c17b0
        try clear c18
        try clear c28
        try clear c30
        try clear c30b0
        try clear hcz25_0
        try clear hcz25_1
        try clear hcz25_2
        try clear hcz29_0
        try clear hcz29_1
        try clear hcz29_2
        try clear hfz25_0
        try clear hfz25_1
        try clear hfz25_2
        try clear hfz29_0
        try clear hfz29_1
        try clear hfz29_2
        try clear p2
        try clear p6
        obtain ⟨x19_3, x21_3, rfl, rfl, HA, HK3, BK375, BK381, HB⟩ := hrel
        cases gk with
        | zero => exact absurd HA.out (by simp [abridgerlaw5_NumberValue.l1])
        | succ k3 =>
         have H := HA.out
         clear HA
         simp only [abridgerlaw5_NumberValue.l1] at H
         by_cases c31 : x21_3 < a3
         ·rw [if_pos c31] at H
          have c31b0 : decide (x21_3 < a3) = true := decide_eq_true c31
          clear c31
          have H' := Aside0.mk H
          clear H
          go_wp2
          go_roundg k3
          case measure => have := HJ7.out; have := HK2.out; have := HK3.out; omega
          case rel => exact ⟨(wrap64 (10 * x19_3)), (wrap64 (x21_3 + 1)), (by first | rfl | (simp; done) | (simp [bne_nil_]; done) | (simp [*]; done) | (simp [wrap64]; done) | (refine congrArg (Value.int .i64) ?_; unfold wrap64; omega)), (by first | rfl | (simp; done) | (simp [bne_nil_]; done) | (simp [*]; done) | (simp [wrap64]; done) | (refine congrArg (Value.int .i64) ?_; unfold wrap64; omega)), H', ⟨by have := HJ7.out; have := HK2.out; have := HK3.out; omega⟩, ⟨by (with_reducible repeat (first | refine blk_drewN ?_ _ | refine blk_drew ?_ | refine blk_alloc ?_ _)); exact BK375.out⟩, ⟨by (with_reducible repeat (first | refine blk_drewN ?_ _ | refine blk_drew ?_ | refine blk_alloc ?_ _)); exact BK381.out⟩, ⟨by repeat (first | (with_reducible first | exact HB.out | apply below_alloc | apply pw_below_drewN | apply below_drew1 | refine below_set ?_ GE375.out | refine below_set ?_ GE381.out) | exact HB.out)⟩⟩
         ·rw [if_neg c31] at H
          have c31b0 : decide (x21_3 < a3) = false := decide_eq_false c31
          clear c31
          by_cases c32 : t374 = true
          ·subst c32
           have H1 : (if t380 = true then (some ((t371 == t377 && (t372.toList == t378.toList && (t373.toList == t379.toList))) == (x18_2 == x19_3))) else (some false)) = some r := by rw [if_pos rfl] at H; exact H
           clear H
           have H := H1
           clear H1
           by_cases c33 : t380 = true
           ·subst c33
            have H1 : (some ((t371 == t377 && (t372.toList == t378.toList && (t373.toList == t379.toList))) == (x18_2 == x19_3))) = some r := by rw [if_pos rfl] at H; exact H
            clear H
            have H := H1
            clear H1
            obtain rfl := Option.some.inj H
            have hnb34 := NB375_381.out
            have hnc34 := NB381_375.out
            have hcz35_0 : wr.cell? ⟨gb375, 0, none⟩ = some (.bool t371) := (blk_cell BK375.out 0).trans rfl
            have hcz35_1 : wr.cell? ⟨gb375, 1, none⟩ = some (.string t372) := (blk_cell BK375.out 1).trans rfl
            have hcz35_2 : wr.cell? ⟨gb375, 2, none⟩ = some (.string t373) := (blk_cell BK375.out 2).trans rfl
            have hfz35_0 := blk_frozen BK375.out 0
            have hfz35_1 := blk_frozen BK375.out 1
            have hfz35_2 := blk_frozen BK375.out 2
            have hcz36_0 : wr.cell? ⟨gb381, 0, none⟩ = some (.bool t377) := (blk_cell BK381.out 0).trans rfl
            have hcz36_1 : wr.cell? ⟨gb381, 1, none⟩ = some (.string t378) := (blk_cell BK381.out 1).trans rfl
            have hcz36_2 : wr.cell? ⟨gb381, 2, none⟩ = some (.string t379) := (blk_cell BK381.out 2).trans rfl
            have hfz36_0 := blk_frozen BK381.out 0
            have hfz36_1 := blk_frozen BK381.out 1
            have hfz36_2 := blk_frozen BK381.out 2
            go_wp2
            go_ret
            exact ⟨by first | rfl | (simp [errW_none, errW_some] <;> rfl) | (simp [*, errW_none, errW_some] <;> rfl), by repeat (first | (with_reducible first | exact HB.out | apply below_alloc | apply pw_below_drewN | apply below_drew1 | refine below_set ?_ GE375.out | refine below_set ?_ GE381.out) | exact HB.out)⟩
           ·replace c33 := Bool.eq_false_iff.mpr c33
            subst c33
            have H1 : (some false) = some r := by rw [if_neg (show ¬ (false = true) by decide)] at H; exact H
            clear H
            have H := H1
            clear H1
            obtain rfl := Option.some.inj H
            go_wp2
            go_ret
            exact ⟨by first | rfl | (simp [errW_none, errW_some] <;> rfl) | (simp [*, errW_none, errW_some] <;> rfl), by repeat (first | (with_reducible first | exact HB.out | apply below_alloc | apply pw_below_drewN | apply below_drew1 | refine below_set ?_ GE375.out | refine below_set ?_ GE381.out) | exact HB.out)⟩
          ·replace c32 := Bool.eq_false_iff.mpr c32
           subst c32
           have H1 : (some false) = some r := by rw [if_neg (show ¬ (false = true) by decide)] at H; exact H
           clear H
           have H := H1
           clear H1
           obtain rfl := Option.some.inj H
           go_wp2
           go_ret
           exact ⟨by first | rfl | (simp [errW_none, errW_some] <;> rfl) | (simp [*, errW_none, errW_some] <;> rfl), by repeat (first | (with_reducible first | exact HB.out | apply below_alloc | apply pw_below_drewN | apply below_drew1 | refine below_set ?_ GE375.out | refine below_set ?_ GE381.out) | exact HB.out)⟩
def abridgerlaw5_NumberValue.Pure : Prop := ∀ (a0 : Int) (a1 : Int) (a2 : Int) (a3 : Int) (a4 : Bool) (a5 : Bool), (Lit.int .i64 a0).wf = true → (Lit.int .i64 a1).wf = true → (Lit.int .i64 a2).wf = true → (Lit.int .i64 a3).wf = true → ∃ k, abridgerlaw5_NumberValue.f k a0 a1 a2 a3 a4 a5 = some true
theorem abridgerlaw5_NumberValue.walk (P : abridgerlaw5_NumberValue.Pure) (a0 : Int) (a1 : Int) (a2 : Int) (a3 : Int) (a4 : Bool) (a5 : Bool) (w : World) (w0 : (Lit.int .i64 a0).wf = true) (w1 : (Lit.int .i64 a1).wf = true) (w2 : (Lit.int .i64 a2).wf = true) (w3 : (Lit.int .i64 a3).wf = true) (hL : LaidW w) :
  Calls Tryz.prog 6 #[.int .i64 a0, .int .i64 a1, .int .i64 a2, .int .i64 a3, .bool a4, .bool a5] w fun e w' => e = .returned (.bool true) ∧ Below w.heap.size w w' := by
 obtain ⟨k, h⟩ := P a0 a1 a2 a3 a4 a5 w0 w1 w2 w3
 refine (abridgerlaw5_NumberValue.calls k a0 a1 a2 a3 a4 a5 true w hL h).mono ?_
 rintro e w' ⟨rfl, hd⟩
 exact ⟨rfl, hd⟩
end Go.Proofs.YthimiidnbnlemaaGreatDoor.P
