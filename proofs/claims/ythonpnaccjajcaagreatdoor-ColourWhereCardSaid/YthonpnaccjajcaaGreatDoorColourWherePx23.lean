import Derived.Test.YthonpnaccjajcaaGreatDoorColourWherePx22
namespace Go.Proofs.YthonpnaccjajcaaGreatDoor.P
open Go.RowKit Go.Proofs.YthonpnaccjajcaaGreatDoorW.PrintWords Go.Proofs.YthonpnaccjajcaaGreatDoorW.PrintLast Go.Proofs.YthonpnaccjajcaaGreatDoorW.PrintMore Go.Proofs.YthonpnaccjajcaaGreatDoorX
attribute [local go_sem] max2_int min2_int max_two min_two max_three min_three max_four min_four
set_option linter.unusedVariables false
set_option linter.unusedSimpArgs false
def r17_before.f (k : Nat) (l0 : List (S35)) (l1 : List Int) (a2 : Int) : Option (Bool) := if a2 < 0 then (none) else (if 0 ≤ a2 then (if a2 < (l0.length : Int) then (if ((rd_T35 l0 a2).f0) = 19 then (none) else (if ((rd_T35 l0 a2).f0) = 20 then (none) else (if ((rd_T35 l0 a2).f0) = 21 then (none) else (if ((rd_T35 l0 a2).f0) = 2 then (none) else (if ((rd_T35 l0 a2).f0) = 23 then (none) else (if ((rd_T35 l0 a2).f0) = 18 then (none) else (if ((rd_T35 l0 a2).f0) = 17 then (none) else ((r17_in.f k l1 a2).bind fun t263 => (some t263))))))))) else (none)) else (none))
set_option maxHeartbeats 8000000 in
set_option maxRecDepth 100000 in
theorem r17_before.calls (k : Nat) (A0 : Option Addr) (c0 : Nat) (l0 : List (S35)) (A1 : Option Addr) (c1 : Nat) (l1 : List Int) (a2 : Int) (r : Bool) (w : World) (hr0 : Kd.C k35 w A0 l0.length l0) (hc0 : l0.length ≤ c0) (hr1 : Kd.C (Kd.int .i64) w A1 l1.length l1) (hc1 : l1.length ≤ c1) (h : r17_before.f k l0 l1 a2 = some r) :
  Calls Tryz.prog 21 #[.slice A0 l0.length c0, .slice A1 l1.length c1, .int .i64 a2] w fun e w' => e = .returned (.bool r) ∧ Drawn0 w w' := by
 have HR0 := Aside0.mk hr0
 have HC0 := Aside0.mk hc0
 clear hr0 hc0
 have HR1 := Aside0.mk hr1
 have HC1 := Aside0.mk hc1
 clear hr1 hc1
 have H : (if a2 < 0 then (none) else (if 0 ≤ a2 then (if a2 < (l0.length : Int) then (if ((rd_T35 l0 a2).f0) = 19 then (none) else (if ((rd_T35 l0 a2).f0) = 20 then (none) else (if ((rd_T35 l0 a2).f0) = 21 then (none) else (if ((rd_T35 l0 a2).f0) = 2 then (none) else (if ((rd_T35 l0 a2).f0) = 23 then (none) else (if ((rd_T35 l0 a2).f0) = 18 then (none) else (if ((rd_T35 l0 a2).f0) = 17 then (none) else ((r17_in.f k l1 a2).bind fun t263 => (some t263))))))))) else (none)) else (none))) = some r := h
 clear h
 by_cases c4 : a2 < 0
 ·rw [if_pos c4] at H
  exact absurd H (by simp)
 ·rw [if_neg c4] at H
  have c4b0 : decide (a2 < 0) = false := decide_eq_false c4
  clear c4
  by_cases c5 : 0 ≤ a2
  ·rw [if_pos c5] at H
   have c5b0 : decide (0 ≤ a2) = true := decide_eq_true c5
   clear c5
   by_cases c6 : a2 < (l0.length : Int)
   ·rw [if_pos c6] at H
    have c6b0 : decide (a2 < (l0.length : Int)) = true := decide_eq_true c6
    clear c6
    by_cases c7 : ((rd_T35 l0 a2).f0) = 19
    ·rw [if_pos c7] at H
     exact absurd H (by simp)
    ·rw [if_neg c7] at H
     have c7b0 : (((rd_T35 l0 a2).f0) == 19) = false := beq_eq_false_iff_ne.mpr c7
     have c7b1 : (((rd_T35 l0 a2).f0) != 19) = true := bne_iff_ne.mpr c7
     by_cases c8 : ((rd_T35 l0 a2).f0) = 20
     ·rw [if_pos c8] at H
      exact absurd H (by simp)
     ·rw [if_neg c8] at H
      have c8b0 : (((rd_T35 l0 a2).f0) == 20) = false := beq_eq_false_iff_ne.mpr c8
      have c8b1 : (((rd_T35 l0 a2).f0) != 20) = true := bne_iff_ne.mpr c8
      by_cases c9 : ((rd_T35 l0 a2).f0) = 21
      ·rw [if_pos c9] at H
       exact absurd H (by simp)
      ·rw [if_neg c9] at H
       have c9b0 : (((rd_T35 l0 a2).f0) == 21) = false := beq_eq_false_iff_ne.mpr c9
       have c9b1 : (((rd_T35 l0 a2).f0) != 21) = true := bne_iff_ne.mpr c9
       by_cases c10 : ((rd_T35 l0 a2).f0) = 2
       ·rw [if_pos c10] at H
        exact absurd H (by simp)
       ·rw [if_neg c10] at H
        have c10b0 : (((rd_T35 l0 a2).f0) == 2) = false := beq_eq_false_iff_ne.mpr c10
        have c10b1 : (((rd_T35 l0 a2).f0) != 2) = true := bne_iff_ne.mpr c10
        by_cases c11 : ((rd_T35 l0 a2).f0) = 23
        ·rw [if_pos c11] at H
         exact absurd H (by simp)
        ·rw [if_neg c11] at H
         have c11b0 : (((rd_T35 l0 a2).f0) == 23) = false := beq_eq_false_iff_ne.mpr c11
         have c11b1 : (((rd_T35 l0 a2).f0) != 23) = true := bne_iff_ne.mpr c11
         by_cases c12 : ((rd_T35 l0 a2).f0) = 18
         ·rw [if_pos c12] at H
          exact absurd H (by simp)
         ·rw [if_neg c12] at H
          have c12b0 : (((rd_T35 l0 a2).f0) == 18) = false := beq_eq_false_iff_ne.mpr c12
          have c12b1 : (((rd_T35 l0 a2).f0) != 18) = true := bne_iff_ne.mpr c12
          by_cases c13 : ((rd_T35 l0 a2).f0) = 17
          ·rw [if_pos c13] at H
           exact absurd H (by simp)
          ·rw [if_neg c13] at H
           have c13b0 : (((rd_T35 l0 a2).f0) == 17) = false := beq_eq_false_iff_ne.mpr c13
           have c13b1 : (((rd_T35 l0 a2).f0) != 17) = true := bne_iff_ne.mpr c13
           replace H := Option.bind_eq_some_iff.mp H
           obtain ⟨t263, A140, H⟩ := H
           replace H : (some t263) = some r := H
           have A14 := Aside0.mk A140
           clear A140
           obtain rfl := Option.some.inj H
           have p262 : 0 ≤ (a2 : Int) := of_decide_eq_true (by first | (with_reducible assumption) | assumption)
           have q262 : a2 < (l0.length : Int) := of_decide_eq_true (by first | (with_reducible assumption) | assumption)
           obtain ⟨ad262, e262, hx262_0, hx262_1, hx262_2, hx262_3, hx262_4, hx262_5, hx262_6, hx262_7, hx262_8, hx262_9, hx262_10, hx262_11, hx262_12⟩ := at_T35 HR0.out a2 p262 q262
           cases e262
           replace p262 := eq_true p262
           replace q262 := eq_true q262
           go_enter Tryz.func21, Tryz.ntmps21
           go_wp2_with (first | ((with_reducible refine gate_callee (f := 42) rfl ?_); refine goesL_ (some 24) rfl rfl Tryz.func42 (by kernel_rfl) rfl #[.slice A1 l1.length c1, .int .i64 a2] rfl agP ?_; (with_reducible refine (r17_in.calls k _ _ l1 a2 t263 _ ?side1 ?side2 A14.out).mono ?_); (case side1 => repeat (first | exact HR1.out | (with_reducible refine Kd.C_alloc ?_ _) | (with_reducible refine Kd.C_drewN ?_ _) | (with_reducible refine Kd.C_drew ?_))); (case side2 => exact HC1.out); rintro e w' ⟨rfl, ⟨nd, rfl⟩⟩; refine ⟨_, rfl, ?_⟩))
           go_ret
           exact ⟨by first | rfl | (simp; done) | (simp [bne_nil_]; done) | (simp [*]; done) | (simp [wrap64]; done) | (refine congrArg (Value.int .i64) ?_; unfold wrap64; omega), by repeat (first | exact Drawn0.refl _ | apply Drawn0.step)⟩
   ·rw [if_neg c6] at H
    exact absurd H (by simp)
  ·rw [if_neg c5] at H
   exact absurd H (by simp)
end Go.Proofs.YthonpnaccjajcaaGreatDoor.P
