import Derived.Test.YthonpnaccjajcaaGreatDoorColourWherePx7
namespace Go.Proofs.YthonpnaccjajcaaGreatDoor.P
open Go.RowKit Go.Proofs.YthonpnaccjajcaaGreatDoorW.PrintWords Go.Proofs.YthonpnaccjajcaaGreatDoorW.PrintLast Go.Proofs.YthonpnaccjajcaaGreatDoorW.PrintMore Go.Proofs.YthonpnaccjajcaaGreatDoorX
attribute [local go_sem] max2_int min2_int max_two min_two max_three min_three max_four min_four
set_option linter.unusedVariables false
set_option linter.unusedSimpArgs false
def colour_name.l0 : Nat → List (S35) → Int → Option (ByteArray)
 | 0, _, _ => none
 | k + 1, x0, x1 => if x1 ≥ 0 then (if 0 ≤ x1 then (if x1 < (x0.length : Int) then ((cvalue_Blank.f ((rd_T35 x0 x1).f0) ((rd_T35 x0 x1).f1) ((rd_T35 x0 x1).f2) ((rd_T35 x0 x1).f3.f0) ((rd_T35 x0 x1).f3.f1) ((rd_T35 x0 x1).f3.f2) ((rd_T35 x0 x1).f4) ((rd_T35 x0 x1).f5) ((rd_T35 x0 x1).f6.f0) ((rd_T35 x0 x1).f6.f1) ((rd_T35 x0 x1).f6.f2) ((rd_T35 x0 x1).f6.f3) ((rd_T35 x0 x1).f7)).bind fun t170 => (if t170 = true then (none) else (some ((rd_T35 x0 x1).f1)))) else (none)) else (none)) else (none)
def colour_name.f (k : Nat) (l0 : List (S35)) (a1 : Int) : Option (ByteArray) := colour_name.l0 k l0 (wrap64 (a1 - 1))
set_option maxHeartbeats 8000000 in
set_option maxRecDepth 100000 in
theorem colour_name.calls (k : Nat) (A0 : Option Addr) (c0 : Nat) (l0 : List (S35)) (a1 : Int) (r : ByteArray) (w : World) (hr0 : Kd.C k35 w A0 l0.length l0) (hc0 : l0.length ≤ c0) (h : colour_name.f k l0 a1 = some r) :
  Calls Tryz.prog 15 #[.slice A0 l0.length c0, .int .i64 a1] w fun e w' => e = .returned (.string r) ∧ Below w.heap.size w w' := by
 have hu35 := Tryz.underlying35
 have HR0 := Aside0.mk hr0
 have HC0 := Aside0.mk hc0
 clear hr0 hc0
 have HB := Aside0.mk (Below.refl w.heap.size w)
 have H : (colour_name.l0 k l0 (wrap64 (a1 - 1))) = some r := h
 clear h
 have H' := Aside0.mk H
 clear H
 go_enter Tryz.func15, Tryz.ntmps15
 go_wp2
 go_loopg [1] k (fun kq v1 w' => ∃ (x1_1 : Int), v1 = .int .i64 x1_1 ∧ Aside0 (colour_name.l0 kq l0 x1_1 = some r) ∧ Aside0 (kq ≤ k) ∧ Aside0 (Below w.heap.size w w'))
 case atStart => exact ⟨(wrap64 (a1 - 1)), vqP, H', ⟨Nat.le_refl _⟩, ⟨hbP0 HB.out⟩⟩
 case round =>
  clear H'
  obtain ⟨x1_1, rfl, HA, HK1, HB⟩ := hrel
  cases gk with
  | zero => exact absurd HA.out (by simp [colour_name.l0])
  | succ k1 =>
   have H := HA.out
   clear HA
   simp only [colour_name.l0] at H
   by_cases c3 : x1_1 ≥ 0
   ·rw [if_pos c3] at H
    have c3b0 : decide (0 ≤ x1_1) = true := decide_eq_true c3
    clear c3
    by_cases c4 : 0 ≤ x1_1
    ·rw [if_pos c4] at H
     have c4b0 : decide (0 ≤ x1_1) = true := decide_eq_true c4
     clear c4
     by_cases c5 : x1_1 < (l0.length : Int)
     ·rw [if_pos c5] at H
      have c5b0 : decide (x1_1 < (l0.length : Int)) = true := decide_eq_true c5
      clear c5
      replace H := Option.bind_eq_some_iff.mp H
      obtain ⟨t170, A60, H⟩ := H
      replace H : (if t170 = true then (none) else (some ((rd_T35 l0 x1_1).f1))) = some r := H
      have A6 := Aside0.mk A60
      clear A60
      by_cases c7 : t170 = true
      ·subst c7
       have H1 : (none) = some r := by rw [if_pos rfl] at H; exact H
       clear H
       have H := H1
       clear H1
       exact absurd H (by simp)
      ·replace c7 := Bool.eq_false_iff.mpr c7
       subst c7
       have H1 : (some ((rd_T35 l0 x1_1).f1)) = some r := by rw [if_neg (show ¬ (false = true) by decide)] at H; exact H
       clear H
       have H := H1
       clear H1
       obtain rfl := Option.some.inj H
       have p169 : 0 ≤ (x1_1 : Int) := of_decide_eq_true (by first | (with_reducible assumption) | assumption)
       have q169 : x1_1 < (l0.length : Int) := of_decide_eq_true (by first | (with_reducible assumption) | assumption)
       obtain ⟨ad169, e169, hx169_0, hx169_1, hx169_2, hx169_3, hx169_4, hx169_5, hx169_6, hx169_7, hx169_8, hx169_9, hx169_10, hx169_11, hx169_12⟩ := at_T35 HR0.out x1_1 p169 q169
       cases e169
       replace hx169_0 := clB HB.out hx169_0
       replace hx169_1 := clB HB.out hx169_1
       replace hx169_2 := clB HB.out hx169_2
       replace hx169_3 := clB HB.out hx169_3
       replace hx169_4 := clB HB.out hx169_4
       replace hx169_5 := clB HB.out hx169_5
       replace hx169_6 := clB HB.out hx169_6
       replace hx169_7 := clB HB.out hx169_7
       replace hx169_8 := clB HB.out hx169_8
       replace hx169_9 := clB HB.out hx169_9
       replace hx169_10 := clB HB.out hx169_10
       replace hx169_11 := clB HB.out hx169_11
       replace hx169_12 := clB HB.out hx169_12
       replace p169 := eq_true p169
       replace q169 := eq_true q169
       go_wp2_with (first | ((with_reducible refine gate_callee (f := 31) rfl ?_); refine goesL_ (some 15) rfl rfl Tryz.func31 (by kernel_rfl) rfl #[.agg #[.int .i64 ((rd_T35 l0 x1_1).f0), .string ((rd_T35 l0 x1_1).f1), .string ((rd_T35 l0 x1_1).f2), .bool ((rd_T35 l0 x1_1).f3.f0), .string ((rd_T35 l0 x1_1).f3.f1), .string ((rd_T35 l0 x1_1).f3.f2), .bool ((rd_T35 l0 x1_1).f4), .bool ((rd_T35 l0 x1_1).f5), .int .i64 ((rd_T35 l0 x1_1).f6.f0), .int .i64 ((rd_T35 l0 x1_1).f6.f1), .int .i64 ((rd_T35 l0 x1_1).f6.f2), .int .i64 ((rd_T35 l0 x1_1).f6.f3), .int .i64 ((rd_T35 l0 x1_1).f7)]] rfl agP ?_; (with_reducible refine (cvalue_Blank.calls ((rd_T35 l0 x1_1).f0) ((rd_T35 l0 x1_1).f1) ((rd_T35 l0 x1_1).f2) ((rd_T35 l0 x1_1).f3.f0) ((rd_T35 l0 x1_1).f3.f1) ((rd_T35 l0 x1_1).f3.f2) ((rd_T35 l0 x1_1).f4) ((rd_T35 l0 x1_1).f5) ((rd_T35 l0 x1_1).f6.f0) ((rd_T35 l0 x1_1).f6.f1) ((rd_T35 l0 x1_1).f6.f2) ((rd_T35 l0 x1_1).f6.f3) ((rd_T35 l0 x1_1).f7) false _ A6.out).mono ?_); rintro e w8 ⟨rfl, hb⟩; refine ⟨_, rfl, ?_⟩; have n0_ := Aside0.mk (below_step (hbP0 HB.out) hb); clear HB; have HB := n0_; clear n0_; (try clear hb); (try clear hb2); (try clear hk); (try clear hi); have p171 : 0 ≤ (x1_1 : Int) := of_decide_eq_true (by first | (with_reducible assumption) | assumption); have q171 : x1_1 < (l0.length : Int) := of_decide_eq_true (by first | (with_reducible assumption) | assumption); obtain ⟨ad171, e171, hx171_0, hx171_1, hx171_2, hx171_3, hx171_4, hx171_5, hx171_6, hx171_7, hx171_8, hx171_9, hx171_10, hx171_11, hx171_12⟩ := at_T35 HR0.out x1_1 p171 q171; obtain rfl : ad169 = ad171 := (by injection e171); replace hx171_0 := clB HB.out hx171_0; replace hx171_1 := clB HB.out hx171_1; replace hx171_2 := clB HB.out hx171_2; replace hx171_3 := clB HB.out hx171_3; replace hx171_4 := clB HB.out hx171_4; replace hx171_5 := clB HB.out hx171_5; replace hx171_6 := clB HB.out hx171_6; replace hx171_7 := clB HB.out hx171_7; replace hx171_8 := clB HB.out hx171_8; replace hx171_9 := clB HB.out hx171_9; replace hx171_10 := clB HB.out hx171_10; replace hx171_11 := clB HB.out hx171_11; replace hx171_12 := clB HB.out hx171_12; replace p171 := eq_true p171; replace q171 := eq_true q171))
       go_ret
       exact ⟨by first | rfl | (simp [errW_none, errW_some] <;> rfl) | (simp [*, errW_none, errW_some] <;> rfl), hbP0 HB.out⟩
     ·rw [if_neg c5] at H
      exact absurd H (by simp)
    ·rw [if_neg c4] at H
     exact absurd H (by simp)
   ·rw [if_neg c3] at H
    exact absurd H (by simp)
end Go.Proofs.YthonpnaccjajcaaGreatDoor.P
