import Derived.Test.YthonpnaccjajcaaGreatDoorColourWherePx18
namespace Go.Proofs.YthonpnaccjajcaaGreatDoor.P
open Go.RowKit Go.Proofs.YthonpnaccjajcaaGreatDoorW.PrintWords Go.Proofs.YthonpnaccjajcaaGreatDoorW.PrintLast Go.Proofs.YthonpnaccjajcaaGreatDoorW.PrintMore Go.Proofs.YthonpnaccjajcaaGreatDoorX
attribute [local go_sem] max2_int min2_int max_two min_two max_three min_three max_four min_four
set_option linter.unusedVariables false
set_option linter.unusedSimpArgs false
def r17_part.f (k : Nat) (l0 : List (S35)) (l1 : List (List Int)) (a2 : Int) : Option (Bool) := if 0 ≤ a2 then (if a2 < (l0.length : Int) then (if ((rd_T35 l0 a2).f0) = 19 then (if a2 < (l1.length : Int) then ((r17_blocks.f k (rd_L7 l1 a2)).bind fun t227 => (some t227)) else (none)) else (if ((rd_T35 l0 a2).f0) = 20 then (none) else (if ((rd_T35 l0 a2).f0) = 17 then (if a2 < (l1.length : Int) then ((r17_blocks.f k (rd_L7 l1 a2)).bind fun t231 => (some t231)) else (none)) else (some false)))) else (none)) else (none)
set_option maxHeartbeats 8000000 in
set_option maxRecDepth 100000 in
theorem r17_part.calls (k : Nat) (A0 : Option Addr) (c0 : Nat) (l0 : List (S35)) (A1 : Option Addr) (c1 : Nat) (l1 : List (List Int)) (a2 : Int) (r : Bool) (w : World) (hr0 : Kd.C k35 w A0 l0.length l0) (hc0 : l0.length ≤ c0) (hr1 : Kd.C (Kd.slice 3 (Kd.int .i64)) w A1 l1.length l1) (hc1 : l1.length ≤ c1) (h : r17_part.f k l0 l1 a2 = some r) :
  Calls Tryz.prog 40 #[.slice A0 l0.length c0, .slice A1 l1.length c1, .int .i64 a2] w fun e w' => e = .returned (.bool r) ∧ Drawn0 w w' := by
 have HR0 := Aside0.mk hr0
 have HC0 := Aside0.mk hc0
 clear hr0 hc0
 have HR1 := Aside0.mk hr1
 have HC1 := Aside0.mk hc1
 clear hr1 hc1
 have H : (if 0 ≤ a2 then (if a2 < (l0.length : Int) then (if ((rd_T35 l0 a2).f0) = 19 then (if a2 < (l1.length : Int) then ((r17_blocks.f k (rd_L7 l1 a2)).bind fun t227 => (some t227)) else (none)) else (if ((rd_T35 l0 a2).f0) = 20 then (none) else (if ((rd_T35 l0 a2).f0) = 17 then (if a2 < (l1.length : Int) then ((r17_blocks.f k (rd_L7 l1 a2)).bind fun t231 => (some t231)) else (none)) else (some false)))) else (none)) else (none)) = some r := h
 clear h
 by_cases c4 : 0 ≤ a2
 ·rw [if_pos c4] at H
  have c4b0 : decide (0 ≤ a2) = true := decide_eq_true c4
  clear c4
  by_cases c5 : a2 < (l0.length : Int)
  ·rw [if_pos c5] at H
   have c5b0 : decide (a2 < (l0.length : Int)) = true := decide_eq_true c5
   clear c5
   by_cases c6 : ((rd_T35 l0 a2).f0) = 19
   ·rw [if_pos c6] at H
    have c6b0 : (((rd_T35 l0 a2).f0) == 19) = true := beq_iff_eq.mpr c6
    have c6b1 : (((rd_T35 l0 a2).f0) != 19) = false := bne_eq_false_iff_eq.mpr c6
    clear c6
    by_cases c7 : a2 < (l1.length : Int)
    ·rw [if_pos c7] at H
     have c7b0 : decide (a2 < (l1.length : Int)) = true := decide_eq_true c7
     clear c7
     replace H := Option.bind_eq_some_iff.mp H
     obtain ⟨t227, A80, H⟩ := H
     replace H : (some t227) = some r := H
     have A8 := Aside0.mk A80
     clear A80
     obtain rfl := Option.some.inj H
     have p225 : 0 ≤ (a2 : Int) := of_decide_eq_true (by first | (with_reducible assumption) | assumption)
     have q225 : a2 < (l0.length : Int) := of_decide_eq_true (by first | (with_reducible assumption) | assumption)
     obtain ⟨ad225, e225, hx225_0, hx225_1, hx225_2, hx225_3, hx225_4, hx225_5, hx225_6, hx225_7, hx225_8, hx225_9, hx225_10, hx225_11, hx225_12⟩ := at_T35 HR0.out a2 p225 q225
     cases e225
     replace p225 := eq_true p225
     replace q225 := eq_true q225
     have p226 : 0 ≤ (a2 : Int) := of_decide_eq_true (by first | (with_reducible assumption) | assumption)
     have q226 : a2 < (l1.length : Int) := of_decide_eq_true (by first | (with_reducible assumption) | assumption)
     obtain ⟨ad226, A226_0, c226_0, e226, hx226_0, hl226_0, hi226_0⟩ := at_L7 HR1.out a2 p226 q226
     cases e226
     have HR226_0 := Aside0.mk hi226_0
     have HC226_0 := Aside0.mk hl226_0
     clear hi226_0 hl226_0
     replace p226 := eq_true p226
     replace q226 := eq_true q226
     go_enter Tryz.func40, Tryz.ntmps40
     go_wp2_with (first | (go_at_call 39; (with_reducible refine (r17_blocks.calls k _ _ (rd_L7 l1 a2) t227 _ ?side1 ?side2 A8.out).mono ?_); (case side1 => repeat (first | exact HR226_0.out | (with_reducible refine Kd.C_alloc ?_ _) | (with_reducible refine Kd.C_drewN ?_ _) | (with_reducible refine Kd.C_drew ?_))); (case side2 => exact HC226_0.out); rintro e w' ⟨rfl, ⟨nd, rfl⟩⟩))
     go_ret
     exact ⟨by first | rfl | (simp; done) | (simp [bne_nil_]; done) | (simp [*]; done) | (simp [wrap64]; done) | (refine congrArg (Value.int .i64) ?_; unfold wrap64; omega), by repeat (first | exact Drawn0.refl _ | apply Drawn0.step)⟩
    ·rw [if_neg c7] at H
     exact absurd H (by simp)
   ·rw [if_neg c6] at H
    have c6b0 : (((rd_T35 l0 a2).f0) == 19) = false := beq_eq_false_iff_ne.mpr c6
    have c6b1 : (((rd_T35 l0 a2).f0) != 19) = true := bne_iff_ne.mpr c6
    by_cases c9 : ((rd_T35 l0 a2).f0) = 20
    ·rw [if_pos c9] at H
     exact absurd H (by simp)
    ·rw [if_neg c9] at H
     have c9b0 : (((rd_T35 l0 a2).f0) == 20) = false := beq_eq_false_iff_ne.mpr c9
     have c9b1 : (((rd_T35 l0 a2).f0) != 20) = true := bne_iff_ne.mpr c9
     by_cases c10 : ((rd_T35 l0 a2).f0) = 17
     ·rw [if_pos c10] at H
      have c10b0 : (((rd_T35 l0 a2).f0) == 17) = true := beq_iff_eq.mpr c10
      have c10b1 : (((rd_T35 l0 a2).f0) != 17) = false := bne_eq_false_iff_eq.mpr c10
      clear c10
      by_cases c11 : a2 < (l1.length : Int)
      ·rw [if_pos c11] at H
       have c11b0 : decide (a2 < (l1.length : Int)) = true := decide_eq_true c11
       clear c11
       replace H := Option.bind_eq_some_iff.mp H
       obtain ⟨t231, A120, H⟩ := H
       replace H : (some t231) = some r := H
       have A12 := Aside0.mk A120
       clear A120
       obtain rfl := Option.some.inj H
       have p225 : 0 ≤ (a2 : Int) := of_decide_eq_true (by first | (with_reducible assumption) | assumption)
       have q225 : a2 < (l0.length : Int) := of_decide_eq_true (by first | (with_reducible assumption) | assumption)
       obtain ⟨ad225, e225, hx225_0, hx225_1, hx225_2, hx225_3, hx225_4, hx225_5, hx225_6, hx225_7, hx225_8, hx225_9, hx225_10, hx225_11, hx225_12⟩ := at_T35 HR0.out a2 p225 q225
       cases e225
       replace p225 := eq_true p225
       replace q225 := eq_true q225
       have p230 : 0 ≤ (a2 : Int) := of_decide_eq_true (by first | (with_reducible assumption) | assumption)
       have q230 : a2 < (l1.length : Int) := of_decide_eq_true (by first | (with_reducible assumption) | assumption)
       obtain ⟨ad230, A230_0, c230_0, e230, hx230_0, hl230_0, hi230_0⟩ := at_L7 HR1.out a2 p230 q230
       cases e230
       have HR230_0 := Aside0.mk hi230_0
       have HC230_0 := Aside0.mk hl230_0
       clear hi230_0 hl230_0
       replace p230 := eq_true p230
       replace q230 := eq_true q230
       go_enter Tryz.func40, Tryz.ntmps40
       go_wp2_with (first | (go_at_call 39; (with_reducible refine (r17_blocks.calls k _ _ (rd_L7 l1 a2) t231 _ ?side1 ?side2 A12.out).mono ?_); (case side1 => repeat (first | exact HR230_0.out | (with_reducible refine Kd.C_alloc ?_ _) | (with_reducible refine Kd.C_drewN ?_ _) | (with_reducible refine Kd.C_drew ?_))); (case side2 => exact HC230_0.out); rintro e w' ⟨rfl, ⟨nd, rfl⟩⟩))
       go_ret
       exact ⟨by first | rfl | (simp; done) | (simp [bne_nil_]; done) | (simp [*]; done) | (simp [wrap64]; done) | (refine congrArg (Value.int .i64) ?_; unfold wrap64; omega), by repeat (first | exact Drawn0.refl _ | apply Drawn0.step)⟩
      ·rw [if_neg c11] at H
       exact absurd H (by simp)
     ·rw [if_neg c10] at H
      have c10b0 : (((rd_T35 l0 a2).f0) == 17) = false := beq_eq_false_iff_ne.mpr c10
      have c10b1 : (((rd_T35 l0 a2).f0) != 17) = true := bne_iff_ne.mpr c10
      obtain rfl := Option.some.inj H
      have p225 : 0 ≤ (a2 : Int) := of_decide_eq_true (by first | (with_reducible assumption) | assumption)
      have q225 : a2 < (l0.length : Int) := of_decide_eq_true (by first | (with_reducible assumption) | assumption)
      obtain ⟨ad225, e225, hx225_0, hx225_1, hx225_2, hx225_3, hx225_4, hx225_5, hx225_6, hx225_7, hx225_8, hx225_9, hx225_10, hx225_11, hx225_12⟩ := at_T35 HR0.out a2 p225 q225
      cases e225
      replace p225 := eq_true p225
      replace q225 := eq_true q225
      go_enter Tryz.func40, Tryz.ntmps40
      go_wp2
      go_ret
      exact ⟨by first | rfl | (simp; done) | (simp [bne_nil_]; done) | (simp [*]; done) | (simp [wrap64]; done) | (refine congrArg (Value.int .i64) ?_; unfold wrap64; omega), by repeat (first | exact Drawn0.refl _ | apply Drawn0.step)⟩
  ·rw [if_neg c5] at H
   exact absurd H (by simp)
 ·rw [if_neg c4] at H
  exact absurd H (by simp)
end Go.Proofs.YthonpnaccjajcaaGreatDoor.P
