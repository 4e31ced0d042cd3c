import Derived.Test.YthonpnaccjajcaaGreatDoorColourWherePx15
import Derived.Test.YthonpnaccjajcaaGreatDoorColourWherePx17
import Derived.Test.YthonpnaccjajcaaGreatDoorColourWherePx19
namespace Go.Proofs.YthonpnaccjajcaaGreatDoor.P
open Go.RowKit Go.Proofs.YthonpnaccjajcaaGreatDoorW.PrintWords Go.Proofs.YthonpnaccjajcaaGreatDoorW.PrintLast Go.Proofs.YthonpnaccjajcaaGreatDoorW.PrintMore Go.Proofs.YthonpnaccjajcaaGreatDoorX
attribute [local go_sem] max2_int min2_int max_two min_two max_three min_three max_four min_four
set_option linter.unusedVariables false
set_option linter.unusedSimpArgs false
mutual
def r17_Colons.l0 : Nat → List (S35) → List (List Int) → List Int → Int → Option (List Int)
 | 0, _, _, _, _ => none
 | k + 1, x0, x3, x4, x5 => if x5 < (x0.length : Int) then (if 0 ≤ x5 then (if ((rd_T35 x0 x5).f0) = 16 then (if x5 < (x3.length : Int) then (if ((rd_L7 x3 x5).length : Int) = 0 then (r17_Colons.j1 k x0 x3 x4 x5 true) else ((r17_blocks.f k (rd_L7 x3 x5)).bind fun t238 => (r17_Colons.j1 k x0 x3 x4 x5 (!t238)))) else (none)) else (r17_Colons.j1 k x0 x3 x4 x5 true)) else (none)) else (some x4)
def r17_Colons.j1 : Nat → List (S35) → List (List Int) → List Int → Int → Bool → Option (List Int)
 | 0, _, _, _, _, _ => none
 | k + 1, x0, x3, x4, x5, x40 => if x40 = true then (r17_Colons.l0 k x0 x3 x4 (wrap64 (x5 + 1))) else (r17_Colons.l1 k x0 x3 x4 x5 0 0 (wrap64 (x5 - 1)))
def r17_Colons.l1 : Nat → List (S35) → List (List Int) → List Int → Int → Int → Int → Int → Option (List Int)
 | 0, _, _, _, _, _, _, _ => none
 | k + 1, x0, x3, x4, x5, x6, x7, x8 => if x8 ≥ 0 then ((r17_part.f k x0 x3 x8).bind fun t239 => (r17_Colons.j3 k x0 x3 x4 x5 x6 x7 x8 (!t239))) else (none)
def r17_Colons.j3 : Nat → List (S35) → List (List Int) → List Int → Int → Int → Int → Int → Bool → Option (List Int)
 | 0, _, _, _, _, _, _, _, _ => none
 | k + 1, x0, x3, x4, x5, x6, x7, x8, x51 => if x51 = true then (if 0 ≤ x8 then (if x8 < (x0.length : Int) then ((r17_quiet.f ((rd_T35 x0 x8).f0) ((rd_T35 x0 x8).f1) ((rd_T35 x0 x8).f2) ((rd_T35 x0 x8).f3.f0) ((rd_T35 x0 x8).f3.f1) ((rd_T35 x0 x8).f3.f2) ((rd_T35 x0 x8).f4) ((rd_T35 x0 x8).f5) ((rd_T35 x0 x8).f6.f0) ((rd_T35 x0 x8).f6.f1) ((rd_T35 x0 x8).f6.f2) ((rd_T35 x0 x8).f6.f3) ((rd_T35 x0 x8).f7)).bind fun t241 => (if t241 = true then (none) else (if ((rd_T35 x0 x8).f0) = 1 then (r17_Colons.l1 k x0 x3 x4 x5 (wrap64 (x6 + 1)) x7 (wrap64 (x8 - 1))) else (none)))) else (none)) else (none)) else (if x6 = 1 then (r17_Colons.j4 k x0 x3 x4 x5 (x7 != 0)) else (none))
def r17_Colons.j4 : Nat → List (S35) → List (List Int) → List Int → Int → Bool → Option (List Int)
 | 0, _, _, _, _, _ => none
 | k + 1, x0, x3, x4, x5, x76 => if x76 = true then (none) else (r17_Colons.l2 k x0 x3 x4 x5 true (wrap64 (x5 + 1)))
def r17_Colons.l2 : Nat → List (S35) → List (List Int) → List Int → Int → Bool → Int → Option (List Int)
 | 0, _, _, _, _, _, _ => none
 | k + 1, x0, x3, x4, x5, x9, x10 => if x10 < (x0.length : Int) then (if 0 ≤ x10 then (if x10 < (x3.length : Int) then (if 0 ≤ x5 then (if x5 < (x3.length : Int) then (if ((rd_L7 x3 x10).length : Int) = ((rd_L7 x3 x5).length : Int) then (if ((rd_T35 x0 x10).f0) = 19 then (none) else (if ((rd_T35 x0 x10).f0) = 20 then (if x4.length < 17592186044416 then (r17_Colons.l0 k x0 x3 (x4 ++ [x5]) (wrap64 (x5 + 1))) else (none)) else (if ((rd_T35 x0 x10).f0) = 17 then (if x4.length < 17592186044416 then (r17_Colons.l0 k x0 x3 (x4 ++ [x5]) (wrap64 (x5 + 1))) else (none)) else (r17_Colons.l2 k x0 x3 x4 x5 x9 (wrap64 (x10 + 1)))))) else (r17_Colons.l2 k x0 x3 x4 x5 x9 (wrap64 (x10 + 1)))) else (none)) else (none)) else (none)) else (none)) else (if x9 = true then (if x4.length < 17592186044416 then (r17_Colons.l0 k x0 x3 (x4 ++ [x5]) (wrap64 (x5 + 1))) else (none)) else (none))
end
def r17_Colons.f (k : Nat) (l0 : List (S35)) : Option (List Int) := (r17_Nest.f k l0).bind fun t232 => (r17_Colons.l0 k l0 t232 ([] : List Int) 0)
set_option maxHeartbeats 8000000 in
set_option maxRecDepth 100000 in
theorem r17_Colons.calls (k : Nat) (A0 : Option Addr) (c0 : Nat) (l0 : List (S35)) (r : List Int) (w : World) (hr0 : Kd.C k35 w A0 l0.length l0) (hc0 : l0.length ≤ c0) (h : r17_Colons.f k l0 = some r) :
  Calls Tryz.prog 17 #[.slice A0 l0.length c0] w fun e w' => ∃ v0_ : Value, e = .returned (v0_) ∧ Kd.R (Kd.int .i64) 3 w' w.heap.size (fun _ => True) v0_ r ∧ Below w.heap.size w w' := by
 have hu35 := Tryz.underlying35
 have HR0 := Aside0.mk hr0
 have HC0 := Aside0.mk hc0
 clear hr0 hc0
 have HB := Aside0.mk (Below.refl w.heap.size w)
 have H : ((r17_Nest.f k l0).bind fun t232 => (r17_Colons.l0 k l0 t232 ([] : List Int) 0)) = some r := h
 clear h
 replace H := Option.bind_eq_some_iff.mp H
 obtain ⟨t232, A20, H⟩ := H
 replace H : (r17_Colons.l0 k l0 t232 ([] : List Int) 0) = some r := H
 have A2 := Aside0.mk A20
 clear A20
 have H' := Aside0.mk H
 clear H
 go_enter Tryz.func17, Tryz.ntmps17
 go_wp2_with (first | (go_at_call 38; (with_reducible refine (r17_Nest.calls k _ _ l0 t232 _ ?side1 ?side2 A2.out).mono ?_); (case side1 => repeat (first | exact HR0.out | (with_reducible refine Kd.C_alloc ?_ _) | (with_reducible refine Kd.C_drewN ?_ _) | (with_reducible refine Kd.C_drew ?_))); (case side2 => exact HC0.out); rintro e w3 ⟨v233, rfl, ho0, hb⟩; have n0_ := Aside0.mk (Kd.S_lower ho0 (below_size (hbP0 HB.out))); have n1_ := Aside0.mk (below_step (hbP0 HB.out) hb); clear HB; have HO234 := n0_; have HB := n1_; clear n0_ n1_; (try clear hb); (try clear hb2); (try clear hk); (try clear hi); (try clear ho0)))
 go_loopg [4, 5] k (fun kq v4 v5 w' => ∃ (x4_1 : List Int) (x5_1 : Int), v5 = .int .i64 x5_1 ∧ Aside0 (r17_Colons.l0 kq l0 t232 x4_1 x5_1 = some r) ∧ Aside0 (kq ≤ k) ∧ Aside0 (Kd.S (Kd.slice 3 (Kd.int .i64)) 24 w' w.heap.size (fun k_ => some k_ ≠ (v4 : Value).ownBlock) v233 t232) ∧ Aside0 (Kd.R (Kd.int .i64) 3 w' w.heap.size (fun _ => True) v4 x4_1) ∧ Aside0 (Below w.heap.size w w'))
 case atStart => exact ⟨(([] : List Int)), (0), vqP, H', ⟨Nat.le_refl _⟩, ⟨by (with_reducible repeat (first | apply Kd.S_alloc | apply Kd.S_drewN | apply Kd.S_drew)); exact Kd.S_mono HO234.out (fun _ hk => (by simp [Value.ownBlock]))⟩, ⟨by first | exact Kd.R_nil _ _ _ _ _ | exact Kd.N_nil _ _ _ _ _ | exact Kd.V_nil _ _ _ _ _ | exact Kd.Q_nil _ _ _ _ _ | exact Kd.S_nil _ _ _ _ _⟩, ⟨hbP0 HB.out⟩⟩
 case round =>
  clear H'
  obtain ⟨x4_1, x5_1, rfl, HA, HK1, HO_3, HO_4, HB⟩ := hrel
  cases gk with
  | zero => exact absurd HA.out (by simp [r17_Colons.l0])
  | succ k1 =>
   have H := HA.out
   clear HA
   simp only [r17_Colons.l0] at H
   by_cases c4 : x5_1 < (l0.length : Int)
   ·rw [if_pos c4] at H
    have c4b0 : decide (x5_1 < (l0.length : Int)) = true := decide_eq_true c4
    clear c4
    have HC5 := Aside0.mk H
    clear H
    go_upto_region 6 with (fail)
    go_cut [40] (fun v40 wc => ∃ (kq : Nat) (x40_4 : Bool), v40 = .bool x40_4 ∧ Aside0 (r17_Colons.j1 kq l0 t232 x4_1 x5_1 x40_4 = some r) ∧ Aside0 (kq ≤ k1) ∧ Aside0 (Kd.S (Kd.slice 3 (Kd.int .i64)) 24 wc w.heap.size (fun k_ => some k_ ≠ (u4 : Value).ownBlock) v233 t232) ∧ Aside0 (Kd.R (Kd.int .i64) 3 wc w.heap.size (fun _ => True) u4 x4_1) ∧ Aside0 (Below w.heap.size w wc))
    case first =>
     have H := HC5.out
     clear HC5
     by_cases c6 : 0 ≤ x5_1
     ·rw [if_pos c6] at H
      have c6b0 : decide (0 ≤ x5_1) = true := decide_eq_true c6
      clear c6
      (first | rw [c6b0] | (simp only [i64_w, i32_w]; rw [c6b0]) | skip)
      by_cases c7 : ((rd_T35 l0 x5_1).f0) = 16
      ·rw [if_pos c7] at H
       have c7b0 : (((rd_T35 l0 x5_1).f0) == 16) = true := beq_iff_eq.mpr c7
       have c7b1 : (((rd_T35 l0 x5_1).f0) != 16) = false := bne_eq_false_iff_eq.mpr c7
       clear c7
       by_cases c8 : x5_1 < (t232.length : Int)
       ·rw [if_pos c8] at H
        have c8b0 : decide (x5_1 < (t232.length : Int)) = true := decide_eq_true c8
        clear c8
        by_cases c9 : ((rd_L7 t232 x5_1).length : Int) = 0
        ·rw [if_pos c9] at H
         have c9b0 : (((rd_L7 t232 x5_1).length : Int) == 0) = true := beq_iff_eq.mpr c9
         have c9b1 : (((rd_L7 t232 x5_1).length : Int) != 0) = false := bne_eq_false_iff_eq.mpr c9
         clear c9
         have H' := Aside0.mk H
         clear H
         have p235 : 0 ≤ (x5_1 : Int) := of_decide_eq_true (by first | (with_reducible assumption) | assumption)
         have q235 : x5_1 < (l0.length : Int) := of_decide_eq_true (by first | (with_reducible assumption) | assumption)
         obtain ⟨ad235, e235, hx235_0, hx235_1, hx235_2, hx235_3, hx235_4, hx235_5, hx235_6, hx235_7, hx235_8, hx235_9, hx235_10, hx235_11, hx235_12⟩ := at_T35 HR0.out x5_1 p235 q235
         cases e235
         replace hx235_0 := clB HB.out hx235_0
         replace hx235_1 := clB HB.out hx235_1
         replace hx235_2 := clB HB.out hx235_2
         replace hx235_3 := clB HB.out hx235_3
         replace hx235_4 := clB HB.out hx235_4
         replace hx235_5 := clB HB.out hx235_5
         replace hx235_6 := clB HB.out hx235_6
         replace hx235_7 := clB HB.out hx235_7
         replace hx235_8 := clB HB.out hx235_8
         replace hx235_9 := clB HB.out hx235_9
         replace hx235_10 := clB HB.out hx235_10
         replace hx235_11 := clB HB.out hx235_11
         replace hx235_12 := clB HB.out hx235_12
         replace p235 := eq_true p235
         replace q235 := eq_true q235
         obtain ⟨Ao10, co10, eo10⟩ := Kd.S_slice HO_3.out
         subst eo10
         have p236 : 0 ≤ (x5_1 : Int) := of_decide_eq_true (by first | (with_reducible assumption) | assumption)
         have q236 : x5_1 < (t232.length : Int) := of_decide_eq_true (by first | (with_reducible assumption) | assumption)
         obtain ⟨ad236, A236_0, c236_0, e236, hx236_0, hl236_0, hi236_0⟩ := at_L7 (Kd.S_reads' HO_3.out).2.2 x5_1 p236 q236
         cases e236
         obtain ⟨ce236, hce236, hMe236, hcc236⟩ := Kd.S_get HO_3.out [] x5_1 p236 (by first | exact q236 | exact of_decide_eq_true (by first | (with_reducible assumption) | assumption) | (have e_ := (Kd.S_reads' HO_3.out).1; omega))
         obtain ⟨ve236_0, rfl, ge236_0⟩ := hMe236
         have hv236_0 := hcc236 0 _ rfl
         rw [Nat.add_zero, show ((Kd.slice 3 (Kd.int .i64))).sz = 1 from rfl, Nat.mul_one] at hv236_0
         replace hv236_0 := Option.some.inj (hv236_0.symm.trans hx236_0)
         rw [hv236_0] at ge236_0
         have HL236_0 := Aside0.mk (show Kd.R (Kd.int .i64) 3 _ _ _ _ (rd_L7 t232 x5_1) from ge236_0)
         clear hv236_0 ge236_0
         clear hcc236 hce236
         have HR236_0 := Aside0.mk hi236_0
         have HC236_0 := Aside0.mk hl236_0
         clear hi236_0 hl236_0
         replace p236 := eq_true p236
         replace q236 := eq_true q236
         go_wp2
         go_meet
         case rel => exact ⟨_, (true), vqP, H', ⟨by have := HK1.out; first | omega | exact Nat.le_refl _⟩, ⟨by (with_reducible repeat (first | apply Kd.S_alloc | apply Kd.S_drewN | apply Kd.S_drew)); exact HO_3.out⟩, ⟨rwP HO_4.out⟩, ⟨hbP0 HB.out⟩⟩
        ·rw [if_neg c9] at H
         have c9b0 : (((rd_L7 t232 x5_1).length : Int) == 0) = false := beq_eq_false_iff_ne.mpr c9
         have c9b1 : (((rd_L7 t232 x5_1).length : Int) != 0) = true := bne_iff_ne.mpr c9
         have c9b2 : ¬ ((rd_L7 t232 x5_1) = []) := fun h_ => c9 (by rw [h_]; rfl)
         replace H := Option.bind_eq_some_iff.mp H
         obtain ⟨t238, A110, H⟩ := H
         replace H : (r17_Colons.j1 k1 l0 t232 x4_1 x5_1 (!t238)) = some r := H
         have A11 := Aside0.mk A110
         clear A110
         have H' := Aside0.mk H
         clear H
         have p235 : 0 ≤ (x5_1 : Int) := of_decide_eq_true (by first | (with_reducible assumption) | assumption)
         have q235 : x5_1 < (l0.length : Int) := of_decide_eq_true (by first | (with_reducible assumption) | assumption)
         obtain ⟨ad235, e235, hx235_0, hx235_1, hx235_2, hx235_3, hx235_4, hx235_5, hx235_6, hx235_7, hx235_8, hx235_9, hx235_10, hx235_11, hx235_12⟩ := at_T35 HR0.out x5_1 p235 q235
         cases e235
         replace hx235_0 := clB HB.out hx235_0
         replace hx235_1 := clB HB.out hx235_1
         replace hx235_2 := clB HB.out hx235_2
         replace hx235_3 := clB HB.out hx235_3
         replace hx235_4 := clB HB.out hx235_4
         replace hx235_5 := clB HB.out hx235_5
         replace hx235_6 := clB HB.out hx235_6
         replace hx235_7 := clB HB.out hx235_7
         replace hx235_8 := clB HB.out hx235_8
         replace hx235_9 := clB HB.out hx235_9
         replace hx235_10 := clB HB.out hx235_10
         replace hx235_11 := clB HB.out hx235_11
         replace hx235_12 := clB HB.out hx235_12
         replace p235 := eq_true p235
         replace q235 := eq_true q235
         obtain ⟨Ao12, co12, eo12⟩ := Kd.S_slice HO_3.out
         subst eo12
         have p236 : 0 ≤ (x5_1 : Int) := of_decide_eq_true (by first | (with_reducible assumption) | assumption)
         have q236 : x5_1 < (t232.length : Int) := of_decide_eq_true (by first | (with_reducible assumption) | assumption)
         obtain ⟨ad236, A236_0, c236_0, e236, hx236_0, hl236_0, hi236_0⟩ := at_L7 (Kd.S_reads' HO_3.out).2.2 x5_1 p236 q236
         cases e236
         obtain ⟨ce236, hce236, hMe236, hcc236⟩ := Kd.S_get HO_3.out [] x5_1 p236 (by first | exact q236 | exact of_decide_eq_true (by first | (with_reducible assumption) | assumption) | (have e_ := (Kd.S_reads' HO_3.out).1; omega))
         obtain ⟨ve236_0, rfl, ge236_0⟩ := hMe236
         have hv236_0 := hcc236 0 _ rfl
         rw [Nat.add_zero, show ((Kd.slice 3 (Kd.int .i64))).sz = 1 from rfl, Nat.mul_one] at hv236_0
         replace hv236_0 := Option.some.inj (hv236_0.symm.trans hx236_0)
         rw [hv236_0] at ge236_0
         have HL236_0 := Aside0.mk (show Kd.R (Kd.int .i64) 3 _ _ _ _ (rd_L7 t232 x5_1) from ge236_0)
         clear hv236_0 ge236_0
         clear hcc236 hce236
         have HR236_0 := Aside0.mk hi236_0
         have HC236_0 := Aside0.mk hl236_0
         clear hi236_0 hl236_0
         replace p236 := eq_true p236
         replace q236 := eq_true q236
         have p237 : 0 ≤ (x5_1 : Int) := of_decide_eq_true (by first | (with_reducible assumption) | assumption)
         have q237 : x5_1 < (t232.length : Int) := of_decide_eq_true (by first | (with_reducible assumption) | assumption)
         obtain ⟨ad237, A237_0, c237_0, e237, hx237_0, hl237_0, hi237_0⟩ := at_L7 (Kd.S_reads' HO_3.out).2.2 x5_1 p237 q237
         obtain rfl : ad236 = ad237 := (by injection e237)
         obtain ⟨ce237, hce237, hMe237, hcc237⟩ := Kd.S_get HO_3.out [] x5_1 p237 (by first | exact q237 | exact of_decide_eq_true (by first | (with_reducible assumption) | assumption) | (have e_ := (Kd.S_reads' HO_3.out).1; omega))
         obtain ⟨ve237_0, rfl, ge237_0⟩ := hMe237
         have hv237_0 := hcc237 0 _ rfl
         rw [Nat.add_zero, show ((Kd.slice 3 (Kd.int .i64))).sz = 1 from rfl, Nat.mul_one] at hv237_0
         replace hv237_0 := Option.some.inj (hv237_0.symm.trans hx237_0)
         rw [hv237_0] at ge237_0
         have HL237_0 := Aside0.mk (show Kd.R (Kd.int .i64) 3 _ _ _ _ (rd_L7 t232 x5_1) from ge237_0)
         clear hv237_0 ge237_0
         clear hcc237 hce237
         have HR237_0 := Aside0.mk hi237_0
         have HC237_0 := Aside0.mk hl237_0
         clear hi237_0 hl237_0
         replace p237 := eq_true p237
         replace q237 := eq_true q237
         have ea_ := Option.some.inj (hx236_0.symm.trans hx237_0)
         injection ea_ with ea_ en_ ec_
         subst ea_
         subst ec_
         clear en_
         go_wp2_with (first | (go_at_call 39; (with_reducible refine (r17_blocks.calls k1 _ _ (rd_L7 t232 x5_1) t238 _ ?side1 ?side2 A11.out).mono ?_); (case side1 => repeat (first | exact (by repeat (first | (with_reducible exact HR237_0.out) | (with_reducible refine Kd.C_alloc ?_ _) | (with_reducible refine Kd.C_drewN ?_ _) | (with_reducible refine Kd.C_drew ?_) | exact HR237_0.out)) | (with_reducible refine Kd.C_alloc ?_ _) | (with_reducible refine Kd.C_drewN ?_ _) | (with_reducible refine Kd.C_drew ?_))); (case side2 => exact HC237_0.out); rintro e w' ⟨rfl, ⟨nd, rfl⟩⟩; (try first | exact ⟨rfl, _, World.drewN_drewN _ _ _⟩ | exact ⟨rfl, _, Eq.trans (World.drewN_drewN _ _ _) (congrArg (World.drewN _) (Nat.add_assoc _ _ _))⟩)))
         go_meet
         case rel => exact ⟨_, (!t238), vqP, H', ⟨by have := HK1.out; first | omega | exact Nat.le_refl _⟩, ⟨by (with_reducible repeat (first | apply Kd.S_alloc | apply Kd.S_drewN | apply Kd.S_drew)); exact HO_3.out⟩, ⟨rwP HO_4.out⟩, ⟨hbP0 HB.out⟩⟩
       ·rw [if_neg c8] at H
        exact absurd H (by simp)
      ·rw [if_neg c7] at H
       have c7b0 : (((rd_T35 l0 x5_1).f0) == 16) = false := beq_eq_false_iff_ne.mpr c7
       have c7b1 : (((rd_T35 l0 x5_1).f0) != 16) = true := bne_iff_ne.mpr c7
       have H' := Aside0.mk H
       clear H
       have p235 : 0 ≤ (x5_1 : Int) := of_decide_eq_true (by first | (with_reducible assumption) | assumption)
       have q235 : x5_1 < (l0.length : Int) := of_decide_eq_true (by first | (with_reducible assumption) | assumption)
       obtain ⟨ad235, e235, hx235_0, hx235_1, hx235_2, hx235_3, hx235_4, hx235_5, hx235_6, hx235_7, hx235_8, hx235_9, hx235_10, hx235_11, hx235_12⟩ := at_T35 HR0.out x5_1 p235 q235
       cases e235
       replace hx235_0 := clB HB.out hx235_0
       replace hx235_1 := clB HB.out hx235_1
       replace hx235_2 := clB HB.out hx235_2
       replace hx235_3 := clB HB.out hx235_3
       replace hx235_4 := clB HB.out hx235_4
       replace hx235_5 := clB HB.out hx235_5
       replace hx235_6 := clB HB.out hx235_6
       replace hx235_7 := clB HB.out hx235_7
       replace hx235_8 := clB HB.out hx235_8
       replace hx235_9 := clB HB.out hx235_9
       replace hx235_10 := clB HB.out hx235_10
       replace hx235_11 := clB HB.out hx235_11
       replace hx235_12 := clB HB.out hx235_12
       replace p235 := eq_true p235
       replace q235 := eq_true q235
       go_wp2
       go_meet
       case rel => exact ⟨_, (true), vqP, H', ⟨by have := HK1.out; first | omega | exact Nat.le_refl _⟩, ⟨by (with_reducible repeat (first | apply Kd.S_alloc | apply Kd.S_drewN | apply Kd.S_drew)); exact HO_3.out⟩, ⟨rwP HO_4.out⟩, ⟨hbP0 HB.out⟩⟩
     ·rw [if_neg c6] at H
      exact absurd H (by simp)
    case rest =>
     clear HC5
     obtain ⟨kq, x40_4, rfl, HA, HJ4, HO_3, HO_4, HB⟩ := hcut
     cases kq with
     | zero => exact absurd HA.out (by simp [r17_Colons.j1])
     | succ kj4 =>
      have H := HA.out
      clear HA
      simp only [r17_Colons.j1] at H
      by_cases c13 : x40_4 = true
      ·subst c13
       have H1 : (r17_Colons.l0 kj4 l0 t232 x4_1 (wrap64 (x5_1 + 1))) = some r := by rw [if_pos rfl] at H; exact H
       clear H
       have H := H1
       clear H1
       have H' := Aside0.mk H
       clear H
       go_wp2
       go_roundg kj4
       case measure => have := HK1.out; have := HJ4.out; omega
       case rel => exact ⟨(x4_1), (wrap64 (x5_1 + 1)), vqP, H', ⟨by have := HK1.out; have := HJ4.out; omega⟩, ⟨by (with_reducible repeat (first | apply Kd.S_alloc | apply Kd.S_drewN | apply Kd.S_drew)); exact HO_3.out⟩, ⟨rwP HO_4.out⟩, ⟨hbP0 HB.out⟩⟩
      ·replace c13 := Bool.eq_false_iff.mpr c13
       subst c13
       have H1 : (r17_Colons.l1 kj4 l0 t232 x4_1 x5_1 0 0 (wrap64 (x5_1 - 1))) = some r := by rw [if_neg (show ¬ (false = true) by decide)] at H; exact H
       clear H
       have H := H1
       clear H1
       have H' := Aside0.mk H
       clear H
       go_wp2
       go_loopg [6, 7, 8] kj4 (fun kq v6 v7 v8 w' => ∃ (x6_3 : Int) (x7_3 : Int) (x8_3 : Int), v6 = .int .i64 x6_3 ∧ v7 = .int .i64 x7_3 ∧ v8 = .int .i64 x8_3 ∧ Aside0 (r17_Colons.l1 kq l0 t232 x4_1 x5_1 x6_3 x7_3 x8_3 = some r) ∧ Aside0 (kq ≤ kj4) ∧ Aside0 (Kd.S (Kd.slice 3 (Kd.int .i64)) 24 w' w.heap.size (fun k_ => some k_ ≠ (u4 : Value).ownBlock) v233 t232) ∧ Aside0 (Kd.R (Kd.int .i64) 3 w' w.heap.size (fun _ => True) u4 x4_1) ∧ Aside0 (Below w.heap.size w w'))
       case atStart => exact ⟨(0), (0), (wrap64 (x5_1 - 1)), vqP, vqP, vqP, H', ⟨Nat.le_refl _⟩, ⟨by (with_reducible repeat (first | apply Kd.S_alloc | apply Kd.S_drewN | apply Kd.S_drew)); exact HO_3.out⟩, ⟨rwP HO_4.out⟩, ⟨hbP0 HB.out⟩⟩
       case round =>
        clear H'
        obtain ⟨x6_3, x7_3, x8_3, rfl, rfl, rfl, HA, HK3, HO_3, HO_4, HB⟩ := hrel
        cases gk with
        | zero => exact absurd HA.out (by simp [r17_Colons.l1])
        | succ k3 =>
         have H := HA.out
         clear HA
         simp only [r17_Colons.l1] at H
         have HC14 := Aside0.mk H
         clear H
         go_upto_region 10 with (fail)
         go_cut [51] (fun v51 wc => ∃ (kq : Nat) (x51_13 : Bool), v51 = .bool x51_13 ∧ Aside0 (r17_Colons.j3 kq l0 t232 x4_1 x5_1 x6_3 x7_3 x8_3 x51_13 = some r) ∧ Aside0 (kq ≤ k3) ∧ Aside0 (Kd.S (Kd.slice 3 (Kd.int .i64)) 24 wc w.heap.size (fun k_ => some k_ ≠ (u4 : Value).ownBlock) v233 t232) ∧ Aside0 (Kd.R (Kd.int .i64) 3 wc w.heap.size (fun _ => True) u4 x4_1) ∧ Aside0 (Below w.heap.size w wc))
         case first =>
          have H := HC14.out
          clear HC14
          by_cases c15 : x8_3 ≥ 0
          ·rw [if_pos c15] at H
           have c15b0 : decide (0 ≤ x8_3) = true := decide_eq_true c15
           clear c15
           (first | rw [c15b0] | (simp only [i64_w, i32_w]; rw [c15b0]) | skip)
           replace H := Option.bind_eq_some_iff.mp H
           obtain ⟨t239, A160, H⟩ := H
           replace H : (r17_Colons.j3 k3 l0 t232 x4_1 x5_1 x6_3 x7_3 x8_3 (!t239)) = some r := H
           have A16 := Aside0.mk A160
           clear A160
           have H' := Aside0.mk H
           clear H
           obtain ⟨Ao17, co17, eo17⟩ := Kd.S_slice HO_3.out
           subst eo17
           go_wp2_with (first | (go_at_call 40; (with_reducible refine (r17_part.calls k3 _ _ l0 _ _ t232 x8_3 t239 _ ?side1 ?side2 ?side3 ?side4 A16.out).mono ?_); (case side1 => repeat (first | exact (Kd.C_below HR0.out HB.out) | (with_reducible refine Kd.C_alloc ?_ _) | (with_reducible refine Kd.C_drewN ?_ _) | (with_reducible refine Kd.C_drew ?_))); (case side2 => exact HC0.out); (case side3 => repeat (first | exact (Kd.S_reads' HO_3.out).2.2 | (with_reducible refine Kd.C_alloc ?_ _) | (with_reducible refine Kd.C_drewN ?_ _) | (with_reducible refine Kd.C_drew ?_))); (case side4 => exact (Kd.S_reads' HO_3.out).2.1); rintro e w' ⟨rfl, ⟨nd, rfl⟩⟩; (try first | exact ⟨rfl, _, World.drewN_drewN _ _ _⟩ | exact ⟨rfl, _, Eq.trans (World.drewN_drewN _ _ _) (congrArg (World.drewN _) (Nat.add_assoc _ _ _))⟩)))
           go_meet
           case rel => exact ⟨_, (!t239), vqP, H', ⟨by have := HK1.out; have := HJ4.out; have := HK3.out; first | omega | exact Nat.le_refl _⟩, ⟨by (with_reducible repeat (first | apply Kd.S_alloc | apply Kd.S_drewN | apply Kd.S_drew)); exact HO_3.out⟩, ⟨rwP HO_4.out⟩, ⟨hbP0 HB.out⟩⟩
          ·rw [if_neg c15] at H
           exact absurd H (by simp)
         case rest =>
          clear HC14
          obtain ⟨kq, x51_13, rfl, HA, HJ13, HO_3, HO_4, HB⟩ := hcut
          cases kq with
          | zero => exact absurd HA.out (by simp [r17_Colons.j3])
          | succ kj13 =>
           have H := HA.out
           clear HA
           simp only [r17_Colons.j3] at H
           by_cases c18 : x51_13 = true
           ·subst c18
            have H1 : (if 0 ≤ x8_3 then (if x8_3 < (l0.length : Int) then ((r17_quiet.f ((rd_T35 l0 x8_3).f0) ((rd_T35 l0 x8_3).f1) ((rd_T35 l0 x8_3).f2) ((rd_T35 l0 x8_3).f3.f0) ((rd_T35 l0 x8_3).f3.f1) ((rd_T35 l0 x8_3).f3.f2) ((rd_T35 l0 x8_3).f4) ((rd_T35 l0 x8_3).f5) ((rd_T35 l0 x8_3).f6.f0) ((rd_T35 l0 x8_3).f6.f1) ((rd_T35 l0 x8_3).f6.f2) ((rd_T35 l0 x8_3).f6.f3) ((rd_T35 l0 x8_3).f7)).bind fun t241 => (if t241 = true then (none) else (if ((rd_T35 l0 x8_3).f0) = 1 then (r17_Colons.l1 kj13 l0 t232 x4_1 x5_1 (wrap64 (x6_3 + 1)) x7_3 (wrap64 (x8_3 - 1))) else (none)))) else (none)) else (none)) = some r := by rw [if_pos rfl] at H; exact H
            clear H
            have H := H1
            clear H1
            by_cases c19 : 0 ≤ x8_3
            ·rw [if_pos c19] at H
             have c19b0 : decide (0 ≤ x8_3) = true := decide_eq_true c19
             clear c19
             by_cases c20 : x8_3 < (l0.length : Int)
             ·rw [if_pos c20] at H
              have c20b0 : decide (x8_3 < (l0.length : Int)) = true := decide_eq_true c20
              clear c20
              replace H := Option.bind_eq_some_iff.mp H
              obtain ⟨t241, A210, H⟩ := H
              replace H : (if t241 = true then (none) else (if ((rd_T35 l0 x8_3).f0) = 1 then (r17_Colons.l1 kj13 l0 t232 x4_1 x5_1 (wrap64 (x6_3 + 1)) x7_3 (wrap64 (x8_3 - 1))) else (none))) = some r := H
              have A21 := Aside0.mk A210
              clear A210
              by_cases c22 : t241 = true
              ·subst c22
               have H1 : (none) = some r := by rw [if_pos rfl] at H; exact H
               clear H
               have H := H1
               clear H1
               exact absurd H (by simp)
              ·replace c22 := Bool.eq_false_iff.mpr c22
               subst c22
               have H1 : (if ((rd_T35 l0 x8_3).f0) = 1 then (r17_Colons.l1 kj13 l0 t232 x4_1 x5_1 (wrap64 (x6_3 + 1)) x7_3 (wrap64 (x8_3 - 1))) else (none)) = some r := by rw [if_neg (show ¬ (false = true) by decide)] at H; exact H
               clear H
               have H := H1
               clear H1
               by_cases c23 : ((rd_T35 l0 x8_3).f0) = 1
               ·rw [if_pos c23] at H
                have c23b0 : (((rd_T35 l0 x8_3).f0) == 1) = true := beq_iff_eq.mpr c23
                have c23b1 : (((rd_T35 l0 x8_3).f0) != 1) = false := bne_eq_false_iff_eq.mpr c23
                clear c23
                have H' := Aside0.mk H
                clear H
                have p240 : 0 ≤ (x8_3 : Int) := of_decide_eq_true (by first | (with_reducible assumption) | assumption)
                have q240 : x8_3 < (l0.length : Int) := of_decide_eq_true (by first | (with_reducible assumption) | assumption)
                obtain ⟨ad240, e240, hx240_0, hx240_1, hx240_2, hx240_3, hx240_4, hx240_5, hx240_6, hx240_7, hx240_8, hx240_9, hx240_10, hx240_11, hx240_12⟩ := at_T35 HR0.out x8_3 p240 q240
                cases e240
                replace hx240_0 := clB HB.out hx240_0
                replace hx240_1 := clB HB.out hx240_1
                replace hx240_2 := clB HB.out hx240_2
                replace hx240_3 := clB HB.out hx240_3
                replace hx240_4 := clB HB.out hx240_4
                replace hx240_5 := clB HB.out hx240_5
                replace hx240_6 := clB HB.out hx240_6
                replace hx240_7 := clB HB.out hx240_7
                replace hx240_8 := clB HB.out hx240_8
                replace hx240_9 := clB HB.out hx240_9
                replace hx240_10 := clB HB.out hx240_10
                replace hx240_11 := clB HB.out hx240_11
                replace hx240_12 := clB HB.out hx240_12
                replace p240 := eq_true p240
                replace q240 := eq_true q240
                go_wp2_with (first | (go_at_call 18; (with_reducible refine (r17_quiet.calls ((rd_T35 l0 x8_3).f0) ((rd_T35 l0 x8_3).f1) ((rd_T35 l0 x8_3).f2) ((rd_T35 l0 x8_3).f3.f0) ((rd_T35 l0 x8_3).f3.f1) ((rd_T35 l0 x8_3).f3.f2) ((rd_T35 l0 x8_3).f4) ((rd_T35 l0 x8_3).f5) ((rd_T35 l0 x8_3).f6.f0) ((rd_T35 l0 x8_3).f6.f1) ((rd_T35 l0 x8_3).f6.f2) ((rd_T35 l0 x8_3).f6.f3) ((rd_T35 l0 x8_3).f7) false _ A21.out).mono ?_); rintro e w24 ⟨rfl, hb⟩; have n0_ := Aside0.mk (Kd.S_below (by (with_reducible repeat (first | apply Kd.S_alloc | apply Kd.S_drewN | apply Kd.S_drew)); exact HO_3.out) hb); have n1_ := Aside0.mk (Kd.R_below (rwP HO_4.out) hb); have n2_ := Aside0.mk (below_step (hbP0 HB.out) hb); clear HO_3; clear HO_4; clear HB; have HO_3 := n0_; have HO_4 := n1_; have HB := n2_; clear n0_ n1_ n2_; (try clear hb); (try clear hb2); (try clear hk); (try clear hi); have p242 : 0 ≤ (x8_3 : Int) := of_decide_eq_true (by first | (with_reducible assumption) | assumption); have q242 : x8_3 < (l0.length : Int) := of_decide_eq_true (by first | (with_reducible assumption) | assumption); obtain ⟨ad242, e242, hx242_0, hx242_1, hx242_2, hx242_3, hx242_4, hx242_5, hx242_6, hx242_7, hx242_8, hx242_9, hx242_10, hx242_11, hx242_12⟩ := at_T35 HR0.out x8_3 p242 q242; obtain rfl : ad240 = ad242 := (by injection e242); replace hx242_0 := clB HB.out hx242_0; replace hx242_1 := clB HB.out hx242_1; replace hx242_2 := clB HB.out hx242_2; replace hx242_3 := clB HB.out hx242_3; replace hx242_4 := clB HB.out hx242_4; replace hx242_5 := clB HB.out hx242_5; replace hx242_6 := clB HB.out hx242_6; replace hx242_7 := clB HB.out hx242_7; replace hx242_8 := clB HB.out hx242_8; replace hx242_9 := clB HB.out hx242_9; replace hx242_10 := clB HB.out hx242_10; replace hx242_11 := clB HB.out hx242_11; replace hx242_12 := clB HB.out hx242_12; replace p242 := eq_true p242; replace q242 := eq_true q242))
                go_roundg kj13
                case measure => have := HK1.out; have := HJ4.out; have := HK3.out; have := HJ13.out; omega
                case rel => exact ⟨(wrap64 (x6_3 + 1)), (x7_3), (wrap64 (x8_3 - 1)), vqP, vqP, vqP, H', ⟨by have := HK1.out; have := HJ4.out; have := HK3.out; have := HJ13.out; omega⟩, ⟨by (with_reducible repeat (first | apply Kd.S_alloc | apply Kd.S_drewN | apply Kd.S_drew)); exact HO_3.out⟩, ⟨rwP HO_4.out⟩, ⟨hbP0 HB.out⟩⟩
               ·rw [if_neg c23] at H
                exact absurd H (by simp)
             ·rw [if_neg c20] at H
              exact absurd H (by simp)
            ·rw [if_neg c19] at H
             exact absurd H (by simp)
           ·replace c18 := Bool.eq_false_iff.mpr c18
            subst c18
            have H1 : (if x6_3 = 1 then (r17_Colons.j4 kj13 l0 t232 x4_1 x5_1 (x7_3 != 0)) else (none)) = some r := by rw [if_neg (show ¬ (false = true) by decide)] at H; exact H
            clear H
            have H := H1
            clear H1
            have HC25 := Aside0.mk H
            clear H
            go_upto_region 16 with (fail)
            go_cut [76] (fun v76 wc => ∃ (kq : Nat) (x76_24 : Bool), v76 = .bool x76_24 ∧ Aside0 (r17_Colons.j4 kq l0 t232 x4_1 x5_1 x76_24 = some r) ∧ Aside0 (kq ≤ kj13) ∧ Aside0 (Kd.S (Kd.slice 3 (Kd.int .i64)) 24 wc w.heap.size (fun k_ => some k_ ≠ (u4 : Value).ownBlock) v233 t232) ∧ Aside0 (Kd.R (Kd.int .i64) 3 wc w.heap.size (fun _ => True) u4 x4_1) ∧ Aside0 (Below w.heap.size w wc))
            case first =>
             have H := HC25.out
             clear HC25
             by_cases c26 : x6_3 = 1
             ·rw [if_pos c26] at H
              have c26b0 : (x6_3 == 1) = true := beq_iff_eq.mpr c26
              have c26b1 : (x6_3 != 1) = false := bne_eq_false_iff_eq.mpr c26
              clear c26
              (first | rw [c26b0] | (simp only [i64_w, i32_w]; rw [c26b0]) | skip)
              have H' := Aside0.mk H
              clear H
              go_wp2
              go_meet
              case rel => exact ⟨_, ((x7_3 != 0)), vqP, H', ⟨by have := HK1.out; have := HJ4.out; have := HK3.out; have := HJ13.out; first | omega | exact Nat.le_refl _⟩, ⟨by (with_reducible repeat (first | apply Kd.S_alloc | apply Kd.S_drewN | apply Kd.S_drew)); exact HO_3.out⟩, ⟨rwP HO_4.out⟩, ⟨hbP0 HB.out⟩⟩
             ·rw [if_neg c26] at H
              exact absurd H (by simp)
            case rest =>
             clear HC25
             obtain ⟨kq, x76_24, rfl, HA, HJ24, HO_3, HO_4, HB⟩ := hcut
             cases kq with
             | zero => exact absurd HA.out (by simp [r17_Colons.j4])
             | succ kj24 =>
              have H := HA.out
              clear HA
              simp only [r17_Colons.j4] at H
              by_cases c27 : x76_24 = true
              ·subst c27
               have H1 : (none) = some r := by rw [if_pos rfl] at H; exact H
               clear H
               have H := H1
               clear H1
               exact absurd H (by simp)
              ·replace c27 := Bool.eq_false_iff.mpr c27
               subst c27
               have H1 : (r17_Colons.l2 kj24 l0 t232 x4_1 x5_1 true (wrap64 (x5_1 + 1))) = some r := by rw [if_neg (show ¬ (false = true) by decide)] at H; exact H
               clear H
               have H := H1
               clear H1
               have H' := Aside0.mk H
               clear H
               go_wp2
               go_loopg [9, 10] kj24 (fun kq v9 v10 w' => ∃ (x9_6 : Bool) (x10_6 : Int), v9 = .bool x9_6 ∧ v10 = .int .i64 x10_6 ∧ Aside0 (r17_Colons.l2 kq l0 t232 x4_1 x5_1 x9_6 x10_6 = some r) ∧ Aside0 (kq ≤ kj24) ∧ Aside0 (Kd.S (Kd.slice 3 (Kd.int .i64)) 24 w' w.heap.size (fun k_ => some k_ ≠ (u4 : Value).ownBlock) v233 t232) ∧ Aside0 (Kd.R (Kd.int .i64) 3 w' w.heap.size (fun _ => True) u4 x4_1) ∧ Aside0 (Below w.heap.size w w'))
               case atStart => exact ⟨(true), (wrap64 (x5_1 + 1)), vqP, vqP, H', ⟨Nat.le_refl _⟩, ⟨by (with_reducible repeat (first | apply Kd.S_alloc | apply Kd.S_drewN | apply Kd.S_drew)); exact HO_3.out⟩, ⟨rwP HO_4.out⟩, ⟨hbP0 HB.out⟩⟩
               case round =>
                clear H'
                obtain ⟨x9_6, x10_6, rfl, rfl, HA, HK6, HO_3, HO_4, HB⟩ := hrel
                cases gk with
                | zero => exact absurd HA.out (by simp [r17_Colons.l2])
                | succ k6 =>
                 have H := HA.out
                 clear HA
                 simp only [r17_Colons.l2] at H
                 by_cases c28 : x10_6 < (l0.length : Int)
                 ·rw [if_pos c28] at H
                  have c28b0 : decide (x10_6 < (l0.length : Int)) = true := decide_eq_true c28
                  clear c28
                  by_cases c29 : 0 ≤ x10_6
                  ·rw [if_pos c29] at H
                   have c29b0 : decide (0 ≤ x10_6) = true := decide_eq_true c29
                   clear c29
                   by_cases c30 : x10_6 < (t232.length : Int)
                   ·rw [if_pos c30] at H
                    have c30b0 : decide (x10_6 < (t232.length : Int)) = true := decide_eq_true c30
                    clear c30
                    by_cases c31 : 0 ≤ x5_1
                    ·rw [if_pos c31] at H
                     have c31b0 : decide (0 ≤ x5_1) = true := decide_eq_true c31
                     clear c31
                     by_cases c32 : x5_1 < (t232.length : Int)
                     ·rw [if_pos c32] at H
                      have c32b0 : decide (x5_1 < (t232.length : Int)) = true := decide_eq_true c32
                      clear c32
                      by_cases c33 : ((rd_L7 t232 x10_6).length : Int) = ((rd_L7 t232 x5_1).length : Int)
                      ·rw [if_pos c33] at H
                       have c33b0 : (((rd_L7 t232 x10_6).length : Int) == ((rd_L7 t232 x5_1).length : Int)) = true := beq_iff_eq.mpr c33
                       have c33b1 : (((rd_L7 t232 x10_6).length : Int) != ((rd_L7 t232 x5_1).length : Int)) = false := bne_eq_false_iff_eq.mpr c33
                       have c33b2 : ((rd_L7 t232 x10_6).length == (rd_L7 t232 x5_1).length) = true := by first | simpa using c33 | (simp at c33 ⊢; omega)
                       clear c33
                       by_cases c34 : ((rd_T35 l0 x10_6).f0) = 19
                       ·rw [if_pos c34] at H
                        exact absurd H (by simp)
                       ·rw [if_neg c34] at H
                        have c34b0 : (((rd_T35 l0 x10_6).f0) == 19) = false := beq_eq_false_iff_ne.mpr c34
                        have c34b1 : (((rd_T35 l0 x10_6).f0) != 19) = true := bne_iff_ne.mpr c34
                        by_cases c35 : ((rd_T35 l0 x10_6).f0) = 20
                        ·rw [if_pos c35] at H
                         have c35b0 : (((rd_T35 l0 x10_6).f0) == 20) = true := beq_iff_eq.mpr c35
                         have c35b1 : (((rd_T35 l0 x10_6).f0) != 20) = false := bne_eq_false_iff_eq.mpr c35
                         clear c35
                         by_cases c36 : x4_1.length < 17592186044416
                         ·rw [if_pos c36] at H
                          have LMc36 := Aside0.mk c36
                          clear c36
                          obtain ⟨y249, hy249⟩ : ∃ y_ : List Int, y_ = (x4_1 ++ [x5_1]) := ⟨_, rfl⟩
                          replace H : (r17_Colons.l0 k6 l0 t232 y249 (wrap64 (x5_1 + 1))) = some r := by first | (rw [hy249]; with_reducible exact H) | (have H2_ := (Option.bind_some _ _).symm.trans H; rw [hy249]; with_reducible exact H2_) | (have H2_ := (Option.bind_some _ _).symm.trans H; with_reducible exact H2_) | with_reducible exact H | (rw [hy249]; exact H) | exact H
                          have Ny249 := Aside0.mk hy249
                          clear hy249
                          have H' := Aside0.mk H
                          clear H
                          obtain ⟨Ao37, co37, eo37⟩ := Kd.S_slice HO_3.out
                          subst eo37
                          have p243 : 0 ≤ (x10_6 : Int) := of_decide_eq_true (by first | (with_reducible assumption) | assumption)
                          have q243 : x10_6 < (t232.length : Int) := of_decide_eq_true (by first | (with_reducible assumption) | assumption)
                          obtain ⟨ad243, A243_0, c243_0, e243, hx243_0, hl243_0, hi243_0⟩ := at_L7 (Kd.S_reads' HO_3.out).2.2 x10_6 p243 q243
                          cases e243
                          obtain ⟨ce243, hce243, hMe243, hcc243⟩ := Kd.S_get HO_3.out [] x10_6 p243 (by first | exact q243 | exact of_decide_eq_true (by first | (with_reducible assumption) | assumption) | (have e_ := (Kd.S_reads' HO_3.out).1; omega))
                          obtain ⟨ve243_0, rfl, ge243_0⟩ := hMe243
                          have hv243_0 := hcc243 0 _ rfl
                          rw [Nat.add_zero, show ((Kd.slice 3 (Kd.int .i64))).sz = 1 from rfl, Nat.mul_one] at hv243_0
                          replace hv243_0 := Option.some.inj (hv243_0.symm.trans hx243_0)
                          rw [hv243_0] at ge243_0
                          have HL243_0 := Aside0.mk (show Kd.R (Kd.int .i64) 3 _ _ _ _ (rd_L7 t232 x10_6) from ge243_0)
                          clear hv243_0 ge243_0
                          clear hcc243 hce243
                          have HR243_0 := Aside0.mk hi243_0
                          have HC243_0 := Aside0.mk hl243_0
                          clear hi243_0 hl243_0
                          replace p243 := eq_true p243
                          replace q243 := eq_true q243
                          have p244 : 0 ≤ (x5_1 : Int) := of_decide_eq_true (by first | (with_reducible assumption) | assumption)
                          have q244 : x5_1 < (t232.length : Int) := of_decide_eq_true (by first | (with_reducible assumption) | assumption)
                          obtain ⟨ad244, A244_0, c244_0, e244, hx244_0, hl244_0, hi244_0⟩ := at_L7 (Kd.S_reads' HO_3.out).2.2 x5_1 p244 q244
                          obtain rfl : ad243 = ad244 := (by injection e244)
                          obtain ⟨ce244, hce244, hMe244, hcc244⟩ := Kd.S_get HO_3.out [] x5_1 p244 (by first | exact q244 | exact of_decide_eq_true (by first | (with_reducible assumption) | assumption) | (have e_ := (Kd.S_reads' HO_3.out).1; omega))
                          obtain ⟨ve244_0, rfl, ge244_0⟩ := hMe244
                          have hv244_0 := hcc244 0 _ rfl
                          rw [Nat.add_zero, show ((Kd.slice 3 (Kd.int .i64))).sz = 1 from rfl, Nat.mul_one] at hv244_0
                          replace hv244_0 := Option.some.inj (hv244_0.symm.trans hx244_0)
                          rw [hv244_0] at ge244_0
                          have HL244_0 := Aside0.mk (show Kd.R (Kd.int .i64) 3 _ _ _ _ (rd_L7 t232 x5_1) from ge244_0)
                          clear hv244_0 ge244_0
                          clear hcc244 hce244
                          have HR244_0 := Aside0.mk hi244_0
                          have HC244_0 := Aside0.mk hl244_0
                          clear hi244_0 hl244_0
                          replace p244 := eq_true p244
                          replace q244 := eq_true q244
                          have p245 : 0 ≤ (x10_6 : Int) := of_decide_eq_true (by first | (with_reducible assumption) | assumption)
                          have q245 : x10_6 < (l0.length : Int) := of_decide_eq_true (by first | (with_reducible assumption) | assumption)
                          obtain ⟨ad245, e245, hx245_0, hx245_1, hx245_2, hx245_3, hx245_4, hx245_5, hx245_6, hx245_7, hx245_8, hx245_9, hx245_10, hx245_11, hx245_12⟩ := at_T35 HR0.out x10_6 p245 q245
                          cases e245
                          replace hx245_0 := clB HB.out hx245_0
                          replace hx245_1 := clB HB.out hx245_1
                          replace hx245_2 := clB HB.out hx245_2
                          replace hx245_3 := clB HB.out hx245_3
                          replace hx245_4 := clB HB.out hx245_4
                          replace hx245_5 := clB HB.out hx245_5
                          replace hx245_6 := clB HB.out hx245_6
                          replace hx245_7 := clB HB.out hx245_7
                          replace hx245_8 := clB HB.out hx245_8
                          replace hx245_9 := clB HB.out hx245_9
                          replace hx245_10 := clB HB.out hx245_10
                          replace hx245_11 := clB HB.out hx245_11
                          replace hx245_12 := clB HB.out hx245_12
                          replace p245 := eq_true p245
                          replace q245 := eq_true q245
                          have p247 : 0 ≤ (x10_6 : Int) := of_decide_eq_true (by first | (with_reducible assumption) | assumption)
                          have q247 : x10_6 < (l0.length : Int) := of_decide_eq_true (by first | (with_reducible assumption) | assumption)
                          obtain ⟨ad247, e247, hx247_0, hx247_1, hx247_2, hx247_3, hx247_4, hx247_5, hx247_6, hx247_7, hx247_8, hx247_9, hx247_10, hx247_11, hx247_12⟩ := at_T35 HR0.out x10_6 p247 q247
                          obtain rfl : ad245 = ad247 := (by injection e247)
                          replace hx247_0 := clB HB.out hx247_0
                          replace hx247_1 := clB HB.out hx247_1
                          replace hx247_2 := clB HB.out hx247_2
                          replace hx247_3 := clB HB.out hx247_3
                          replace hx247_4 := clB HB.out hx247_4
                          replace hx247_5 := clB HB.out hx247_5
                          replace hx247_6 := clB HB.out hx247_6
                          replace hx247_7 := clB HB.out hx247_7
                          replace hx247_8 := clB HB.out hx247_8
                          replace hx247_9 := clB HB.out hx247_9
                          replace hx247_10 := clB HB.out hx247_10
                          replace hx247_11 := clB HB.out hx247_11
                          replace hx247_12 := clB HB.out hx247_12
                          replace p247 := eq_true p247
                          replace q247 := eq_true q247
                          have p248 : 0 ≤ (x10_6 : Int) := of_decide_eq_true (by first | (with_reducible assumption) | assumption)
                          have q248 : x10_6 < (l0.length : Int) := of_decide_eq_true (by first | (with_reducible assumption) | assumption)
                          obtain ⟨ad248, e248, hx248_0, hx248_1, hx248_2, hx248_3, hx248_4, hx248_5, hx248_6, hx248_7, hx248_8, hx248_9, hx248_10, hx248_11, hx248_12⟩ := at_T35 HR0.out x10_6 p248 q248
                          obtain rfl : ad245 = ad248 := (by injection e248)
                          replace hx248_0 := clB HB.out hx248_0
                          replace hx248_1 := clB HB.out hx248_1
                          replace hx248_2 := clB HB.out hx248_2
                          replace hx248_3 := clB HB.out hx248_3
                          replace hx248_4 := clB HB.out hx248_4
                          replace hx248_5 := clB HB.out hx248_5
                          replace hx248_6 := clB HB.out hx248_6
                          replace hx248_7 := clB HB.out hx248_7
                          replace hx248_8 := clB HB.out hx248_8
                          replace hx248_9 := clB HB.out hx248_9
                          replace hx248_10 := clB HB.out hx248_10
                          replace hx248_11 := clB HB.out hx248_11
                          replace hx248_12 := clB HB.out hx248_12
                          replace p248 := eq_true p248
                          replace q248 := eq_true q248
                          go_wp2_with (first | ((with_reducible refine gate_builtin (b := .append) (xs := #[.tmp 127, .tmp 129]) rfl ?_); (try (refine gate_guard (by rfl) ?_; dsimp only)); at_builtin; refine Kd.R_append (Kd.int .i64) (w0 := w) w.heap.size rfl (.tmp 127) (.tmp 129) 24 3 (.int .i64 0) 8 rfl Tryz.underlying24 info3 rfl (by decide) (by omega) u4 x4_1 x5_1 [.int .i64 x5_1] (fun _ => True) (fun _ => False) rfl rfl ?aP (fun _ hk => hk.elim) ?aF ?aO ?aB ?aS ?aL ?_; (case aP => exact rfl); (case aB => exact (hbP0 HB.out)); (case aF => exact (fun _ _ => trivial)); (case aO => exact (rwP HO_4.out)); (case aS => exact (below_size (hbP0 HB.out))); (case aL => have := LMc36.out; omega); intro v250 w38 ho hb hg hat; rw [← Ny249.out] at ho; have n0_ := Aside0.mk (Kd.S_after (ok := (fun _ => True)) (by (with_reducible repeat (first | apply Kd.S_alloc | apply Kd.S_drewN | apply Kd.S_drew)); exact Kd.S_mono HO_3.out (fun _ hk => ⟨trivial, hk⟩)) hg hat); have n1_ := Aside0.mk (Kd.R_after (ok := (fun k_ => some k_ ≠ (.slice (some ad243) t232.length co37 : Value).ownBlock)) (by (with_reducible repeat (first | apply Kd.R_alloc | apply Kd.R_drewN | apply Kd.R_drew)); exact Kd.R_mono HL243_0.out (fun _ hk => ⟨hk.2, hk.1⟩)) hg hat); have n2_ := Aside0.mk (Kd.R_after (ok := (fun k_ => some k_ ≠ (.slice (some ad243) t232.length co37 : Value).ownBlock)) (by (with_reducible repeat (first | apply Kd.R_alloc | apply Kd.R_drewN | apply Kd.R_drew)); exact Kd.R_mono HL244_0.out (fun _ hk => ⟨hk.2, hk.1⟩)) hg hat); have n3_ := Aside0.mk (hb); have n4_ := Aside0.mk (ho); clear HO_3; clear HL243_0; clear HL244_0; clear HB; clear HO_4; have HO_3 := n0_; have HL243_0 := n1_; have HL244_0 := n2_; have HB := n3_; have HO251 := n4_; clear n0_ n1_ n2_ n3_ n4_; clear ho hb hg hat))
                          repeat (go_quiet (first | ((with_reducible refine gate_builtin (b := .append) (xs := #[.tmp 127, .tmp 129]) rfl ?_); (try (refine gate_guard (by rfl) ?_; dsimp only)); at_builtin; refine Kd.R_append (Kd.int .i64) (w0 := w) w.heap.size rfl (.tmp 127) (.tmp 129) 24 3 (.int .i64 0) 8 rfl Tryz.underlying24 info3 rfl (by decide) (by omega) u4 x4_1 x5_1 [.int .i64 x5_1] (fun _ => True) (fun _ => False) rfl rfl ?aP (fun _ hk => hk.elim) ?aF ?aO ?aB ?aS ?aL ?_; (case aP => exact rfl); (case aB => exact (hbP0 HB.out)); (case aF => exact (fun _ _ => trivial)); (case aO => exact (rwP HO_4.out)); (case aS => exact (below_size (hbP0 HB.out))); (case aL => have := LMc36.out; omega); intro v250 w38 ho hb hg hat; rw [← Ny249.out] at ho; have n0_ := Aside0.mk (Kd.S_after (ok := (fun _ => True)) (by (with_reducible repeat (first | apply Kd.S_alloc | apply Kd.S_drewN | apply Kd.S_drew)); exact Kd.S_mono HO_3.out (fun _ hk => ⟨trivial, hk⟩)) hg hat); have n1_ := Aside0.mk (Kd.R_after (ok := (fun k_ => some k_ ≠ (.slice (some ad243) t232.length co37 : Value).ownBlock)) (by (with_reducible repeat (first | apply Kd.R_alloc | apply Kd.R_drewN | apply Kd.R_drew)); exact Kd.R_mono HL243_0.out (fun _ hk => ⟨hk.2, hk.1⟩)) hg hat); have n2_ := Aside0.mk (Kd.R_after (ok := (fun k_ => some k_ ≠ (.slice (some ad243) t232.length co37 : Value).ownBlock)) (by (with_reducible repeat (first | apply Kd.R_alloc | apply Kd.R_drewN | apply Kd.R_drew)); exact Kd.R_mono HL244_0.out (fun _ hk => ⟨hk.2, hk.1⟩)) hg hat); have n3_ := Aside0.mk (hb); have n4_ := Aside0.mk (ho); clear HO_3; clear HL243_0; clear HL244_0; clear HB; clear HO_4; have HO_3 := n0_; have HL243_0 := n1_; have HL244_0 := n2_; have HB := n3_; have HO251 := n4_; clear n0_ n1_ n2_ n3_ n4_; clear ho hb hg hat)); try go_wp2_with (first | ((with_reducible refine gate_builtin (b := .append) (xs := #[.tmp 127, .tmp 129]) rfl ?_); (try (refine gate_guard (by rfl) ?_; dsimp only)); at_builtin; refine Kd.R_append (Kd.int .i64) (w0 := w) w.heap.size rfl (.tmp 127) (.tmp 129) 24 3 (.int .i64 0) 8 rfl Tryz.underlying24 info3 rfl (by decide) (by omega) u4 x4_1 x5_1 [.int .i64 x5_1] (fun _ => True) (fun _ => False) rfl rfl ?aP (fun _ hk => hk.elim) ?aF ?aO ?aB ?aS ?aL ?_; (case aP => exact rfl); (case aB => exact (hbP0 HB.out)); (case aF => exact (fun _ _ => trivial)); (case aO => exact (rwP HO_4.out)); (case aS => exact (below_size (hbP0 HB.out))); (case aL => have := LMc36.out; omega); intro v250 w38 ho hb hg hat; rw [← Ny249.out] at ho; have n0_ := Aside0.mk (Kd.S_after (ok := (fun _ => True)) (by (with_reducible repeat (first | apply Kd.S_alloc | apply Kd.S_drewN | apply Kd.S_drew)); exact Kd.S_mono HO_3.out (fun _ hk => ⟨trivial, hk⟩)) hg hat); have n1_ := Aside0.mk (Kd.R_after (ok := (fun k_ => some k_ ≠ (.slice (some ad243) t232.length co37 : Value).ownBlock)) (by (with_reducible repeat (first | apply Kd.R_alloc | apply Kd.R_drewN | apply Kd.R_drew)); exact Kd.R_mono HL243_0.out (fun _ hk => ⟨hk.2, hk.1⟩)) hg hat); have n2_ := Aside0.mk (Kd.R_after (ok := (fun k_ => some k_ ≠ (.slice (some ad243) t232.length co37 : Value).ownBlock)) (by (with_reducible repeat (first | apply Kd.R_alloc | apply Kd.R_drewN | apply Kd.R_drew)); exact Kd.R_mono HL244_0.out (fun _ hk => ⟨hk.2, hk.1⟩)) hg hat); have n3_ := Aside0.mk (hb); have n4_ := Aside0.mk (ho); clear HO_3; clear HL243_0; clear HL244_0; clear HB; clear HO_4; have HO_3 := n0_; have HL243_0 := n1_; have HL244_0 := n2_; have HB := n3_; have HO251 := n4_; clear n0_ n1_ n2_ n3_ n4_; clear ho hb hg hat)))
                          go_roundg k6
                          case measure => have := HK1.out; have := HJ4.out; have := HK3.out; have := HJ13.out; have := HJ24.out; have := HK6.out; omega
                          case rel => exact ⟨(y249), (wrap64 (x5_1 + 1)), vqP, H', ⟨by have := HK1.out; have := HJ4.out; have := HK3.out; have := HJ13.out; have := HJ24.out; have := HK6.out; omega⟩, ⟨by (with_reducible repeat (first | apply Kd.S_alloc | apply Kd.S_drewN | apply Kd.S_drew)); exact Kd.S_mono HO_3.out (fun _ hk => hk.2)⟩, ⟨rwP HO251.out⟩, ⟨hbP0 HB.out⟩⟩
                         ·rw [if_neg c36] at H
                          exact absurd H (by simp)
                        ·rw [if_neg c35] at H
                         have c35b0 : (((rd_T35 l0 x10_6).f0) == 20) = false := beq_eq_false_iff_ne.mpr c35
                         have c35b1 : (((rd_T35 l0 x10_6).f0) != 20) = true := bne_iff_ne.mpr c35
                         by_cases c39 : ((rd_T35 l0 x10_6).f0) = 17
                         ·rw [if_pos c39] at H
                          have c39b0 : (((rd_T35 l0 x10_6).f0) == 17) = true := beq_iff_eq.mpr c39
                          have c39b1 : (((rd_T35 l0 x10_6).f0) != 17) = false := bne_eq_false_iff_eq.mpr c39
                          clear c39
                          by_cases c40 : x4_1.length < 17592186044416
                          ·rw [if_pos c40] at H
                           have LMc40 := Aside0.mk c40
                           clear c40
                           obtain ⟨y254, hy254⟩ : ∃ y_ : List Int, y_ = (x4_1 ++ [x5_1]) := ⟨_, rfl⟩
                           replace H : (r17_Colons.l0 k6 l0 t232 y254 (wrap64 (x5_1 + 1))) = some r := by first | (rw [hy254]; with_reducible exact H) | (have H2_ := (Option.bind_some _ _).symm.trans H; rw [hy254]; with_reducible exact H2_) | (have H2_ := (Option.bind_some _ _).symm.trans H; with_reducible exact H2_) | with_reducible exact H | (rw [hy254]; exact H) | exact H
                           have Ny254 := Aside0.mk hy254
                           clear hy254
                           have H' := Aside0.mk H
                           clear H
                           obtain ⟨Ao41, co41, eo41⟩ := Kd.S_slice HO_3.out
                           subst eo41
                           have p243 : 0 ≤ (x10_6 : Int) := of_decide_eq_true (by first | (with_reducible assumption) | assumption)
                           have q243 : x10_6 < (t232.length : Int) := of_decide_eq_true (by first | (with_reducible assumption) | assumption)
                           obtain ⟨ad243, A243_0, c243_0, e243, hx243_0, hl243_0, hi243_0⟩ := at_L7 (Kd.S_reads' HO_3.out).2.2 x10_6 p243 q243
                           cases e243
                           obtain ⟨ce243, hce243, hMe243, hcc243⟩ := Kd.S_get HO_3.out [] x10_6 p243 (by first | exact q243 | exact of_decide_eq_true (by first | (with_reducible assumption) | assumption) | (have e_ := (Kd.S_reads' HO_3.out).1; omega))
                           obtain ⟨ve243_0, rfl, ge243_0⟩ := hMe243
                           have hv243_0 := hcc243 0 _ rfl
                           rw [Nat.add_zero, show ((Kd.slice 3 (Kd.int .i64))).sz = 1 from rfl, Nat.mul_one] at hv243_0
                           replace hv243_0 := Option.some.inj (hv243_0.symm.trans hx243_0)
                           rw [hv243_0] at ge243_0
                           have HL243_0 := Aside0.mk (show Kd.R (Kd.int .i64) 3 _ _ _ _ (rd_L7 t232 x10_6) from ge243_0)
                           clear hv243_0 ge243_0
                           clear hcc243 hce243
                           have HR243_0 := Aside0.mk hi243_0
                           have HC243_0 := Aside0.mk hl243_0
                           clear hi243_0 hl243_0
                           replace p243 := eq_true p243
                           replace q243 := eq_true q243
                           have p244 : 0 ≤ (x5_1 : Int) := of_decide_eq_true (by first | (with_reducible assumption) | assumption)
                           have q244 : x5_1 < (t232.length : Int) := of_decide_eq_true (by first | (with_reducible assumption) | assumption)
                           obtain ⟨ad244, A244_0, c244_0, e244, hx244_0, hl244_0, hi244_0⟩ := at_L7 (Kd.S_reads' HO_3.out).2.2 x5_1 p244 q244
                           obtain rfl : ad243 = ad244 := (by injection e244)
                           obtain ⟨ce244, hce244, hMe244, hcc244⟩ := Kd.S_get HO_3.out [] x5_1 p244 (by first | exact q244 | exact of_decide_eq_true (by first | (with_reducible assumption) | assumption) | (have e_ := (Kd.S_reads' HO_3.out).1; omega))
                           obtain ⟨ve244_0, rfl, ge244_0⟩ := hMe244
                           have hv244_0 := hcc244 0 _ rfl
                           rw [Nat.add_zero, show ((Kd.slice 3 (Kd.int .i64))).sz = 1 from rfl, Nat.mul_one] at hv244_0
                           replace hv244_0 := Option.some.inj (hv244_0.symm.trans hx244_0)
                           rw [hv244_0] at ge244_0
                           have HL244_0 := Aside0.mk (show Kd.R (Kd.int .i64) 3 _ _ _ _ (rd_L7 t232 x5_1) from ge244_0)
                           clear hv244_0 ge244_0
                           clear hcc244 hce244
                           have HR244_0 := Aside0.mk hi244_0
                           have HC244_0 := Aside0.mk hl244_0
                           clear hi244_0 hl244_0
                           replace p244 := eq_true p244
                           replace q244 := eq_true q244
                           have p245 : 0 ≤ (x10_6 : Int) := of_decide_eq_true (by first | (with_reducible assumption) | assumption)
                           have q245 : x10_6 < (l0.length : Int) := of_decide_eq_true (by first | (with_reducible assumption) | assumption)
                           obtain ⟨ad245, e245, hx245_0, hx245_1, hx245_2, hx245_3, hx245_4, hx245_5, hx245_6, hx245_7, hx245_8, hx245_9, hx245_10, hx245_11, hx245_12⟩ := at_T35 HR0.out x10_6 p245 q245
                           cases e245
                           replace hx245_0 := clB HB.out hx245_0
                           replace hx245_1 := clB HB.out hx245_1
                           replace hx245_2 := clB HB.out hx245_2
                           replace hx245_3 := clB HB.out hx245_3
                           replace hx245_4 := clB HB.out hx245_4
                           replace hx245_5 := clB HB.out hx245_5
                           replace hx245_6 := clB HB.out hx245_6
                           replace hx245_7 := clB HB.out hx245_7
                           replace hx245_8 := clB HB.out hx245_8
                           replace hx245_9 := clB HB.out hx245_9
                           replace hx245_10 := clB HB.out hx245_10
                           replace hx245_11 := clB HB.out hx245_11
                           replace hx245_12 := clB HB.out hx245_12
                           replace p245 := eq_true p245
                           replace q245 := eq_true q245
                           have p247 : 0 ≤ (x10_6 : Int) := of_decide_eq_true (by first | (with_reducible assumption) | assumption)
                           have q247 : x10_6 < (l0.length : Int) := of_decide_eq_true (by first | (with_reducible assumption) | assumption)
                           obtain ⟨ad247, e247, hx247_0, hx247_1, hx247_2, hx247_3, hx247_4, hx247_5, hx247_6, hx247_7, hx247_8, hx247_9, hx247_10, hx247_11, hx247_12⟩ := at_T35 HR0.out x10_6 p247 q247
                           obtain rfl : ad245 = ad247 := (by injection e247)
                           replace hx247_0 := clB HB.out hx247_0
                           replace hx247_1 := clB HB.out hx247_1
                           replace hx247_2 := clB HB.out hx247_2
                           replace hx247_3 := clB HB.out hx247_3
                           replace hx247_4 := clB HB.out hx247_4
                           replace hx247_5 := clB HB.out hx247_5
                           replace hx247_6 := clB HB.out hx247_6
                           replace hx247_7 := clB HB.out hx247_7
                           replace hx247_8 := clB HB.out hx247_8
                           replace hx247_9 := clB HB.out hx247_9
                           replace hx247_10 := clB HB.out hx247_10
                           replace hx247_11 := clB HB.out hx247_11
                           replace hx247_12 := clB HB.out hx247_12
                           replace p247 := eq_true p247
                           replace q247 := eq_true q247
                           have p252 : 0 ≤ (x10_6 : Int) := of_decide_eq_true (by first | (with_reducible assumption) | assumption)
                           have q252 : x10_6 < (l0.length : Int) := of_decide_eq_true (by first | (with_reducible assumption) | assumption)
                           obtain ⟨ad252, e252, hx252_0, hx252_1, hx252_2, hx252_3, hx252_4, hx252_5, hx252_6, hx252_7, hx252_8, hx252_9, hx252_10, hx252_11, hx252_12⟩ := at_T35 HR0.out x10_6 p252 q252
                           obtain rfl : ad245 = ad252 := (by injection e252)
                           replace hx252_0 := clB HB.out hx252_0
                           replace hx252_1 := clB HB.out hx252_1
                           replace hx252_2 := clB HB.out hx252_2
                           replace hx252_3 := clB HB.out hx252_3
                           replace hx252_4 := clB HB.out hx252_4
                           replace hx252_5 := clB HB.out hx252_5
                           replace hx252_6 := clB HB.out hx252_6
                           replace hx252_7 := clB HB.out hx252_7
                           replace hx252_8 := clB HB.out hx252_8
                           replace hx252_9 := clB HB.out hx252_9
                           replace hx252_10 := clB HB.out hx252_10
                           replace hx252_11 := clB HB.out hx252_11
                           replace hx252_12 := clB HB.out hx252_12
                           replace p252 := eq_true p252
                           replace q252 := eq_true q252
                           have p253 : 0 ≤ (x10_6 : Int) := of_decide_eq_true (by first | (with_reducible assumption) | assumption)
                           have q253 : x10_6 < (l0.length : Int) := of_decide_eq_true (by first | (with_reducible assumption) | assumption)
                           obtain ⟨ad253, e253, hx253_0, hx253_1, hx253_2, hx253_3, hx253_4, hx253_5, hx253_6, hx253_7, hx253_8, hx253_9, hx253_10, hx253_11, hx253_12⟩ := at_T35 HR0.out x10_6 p253 q253
                           obtain rfl : ad245 = ad253 := (by injection e253)
                           replace hx253_0 := clB HB.out hx253_0
                           replace hx253_1 := clB HB.out hx253_1
                           replace hx253_2 := clB HB.out hx253_2
                           replace hx253_3 := clB HB.out hx253_3
                           replace hx253_4 := clB HB.out hx253_4
                           replace hx253_5 := clB HB.out hx253_5
                           replace hx253_6 := clB HB.out hx253_6
                           replace hx253_7 := clB HB.out hx253_7
                           replace hx253_8 := clB HB.out hx253_8
                           replace hx253_9 := clB HB.out hx253_9
                           replace hx253_10 := clB HB.out hx253_10
                           replace hx253_11 := clB HB.out hx253_11
                           replace hx253_12 := clB HB.out hx253_12
                           replace p253 := eq_true p253
                           replace q253 := eq_true q253
                           go_wp2_with (first | ((with_reducible refine gate_builtin (b := .append) (xs := #[.tmp 127, .tmp 129]) rfl ?_); (try (refine gate_guard (by rfl) ?_; dsimp only)); at_builtin; refine Kd.R_append (Kd.int .i64) (w0 := w) w.heap.size rfl (.tmp 127) (.tmp 129) 24 3 (.int .i64 0) 8 rfl Tryz.underlying24 info3 rfl (by decide) (by omega) u4 x4_1 x5_1 [.int .i64 x5_1] (fun _ => True) (fun _ => False) rfl rfl ?aP (fun _ hk => hk.elim) ?aF ?aO ?aB ?aS ?aL ?_; (case aP => exact rfl); (case aB => exact (hbP0 HB.out)); (case aF => exact (fun _ _ => trivial)); (case aO => exact (rwP HO_4.out)); (case aS => exact (below_size (hbP0 HB.out))); (case aL => have := LMc40.out; omega); intro v255 w42 ho hb hg hat; rw [← Ny254.out] at ho; have n0_ := Aside0.mk (Kd.S_after (ok := (fun _ => True)) (by (with_reducible repeat (first | apply Kd.S_alloc | apply Kd.S_drewN | apply Kd.S_drew)); exact Kd.S_mono HO_3.out (fun _ hk => ⟨trivial, hk⟩)) hg hat); have n1_ := Aside0.mk (Kd.R_after (ok := (fun k_ => some k_ ≠ (.slice (some ad243) t232.length co41 : Value).ownBlock)) (by (with_reducible repeat (first | apply Kd.R_alloc | apply Kd.R_drewN | apply Kd.R_drew)); exact Kd.R_mono HL243_0.out (fun _ hk => ⟨hk.2, hk.1⟩)) hg hat); have n2_ := Aside0.mk (Kd.R_after (ok := (fun k_ => some k_ ≠ (.slice (some ad243) t232.length co41 : Value).ownBlock)) (by (with_reducible repeat (first | apply Kd.R_alloc | apply Kd.R_drewN | apply Kd.R_drew)); exact Kd.R_mono HL244_0.out (fun _ hk => ⟨hk.2, hk.1⟩)) hg hat); have n3_ := Aside0.mk (hb); have n4_ := Aside0.mk (ho); clear HO_3; clear HL243_0; clear HL244_0; clear HB; clear HO_4; have HO_3 := n0_; have HL243_0 := n1_; have HL244_0 := n2_; have HB := n3_; have HO256 := n4_; clear n0_ n1_ n2_ n3_ n4_; clear ho hb hg hat))
                           repeat (go_quiet (first | ((with_reducible refine gate_builtin (b := .append) (xs := #[.tmp 127, .tmp 129]) rfl ?_); (try (refine gate_guard (by rfl) ?_; dsimp only)); at_builtin; refine Kd.R_append (Kd.int .i64) (w0 := w) w.heap.size rfl (.tmp 127) (.tmp 129) 24 3 (.int .i64 0) 8 rfl Tryz.underlying24 info3 rfl (by decide) (by omega) u4 x4_1 x5_1 [.int .i64 x5_1] (fun _ => True) (fun _ => False) rfl rfl ?aP (fun _ hk => hk.elim) ?aF ?aO ?aB ?aS ?aL ?_; (case aP => exact rfl); (case aB => exact (hbP0 HB.out)); (case aF => exact (fun _ _ => trivial)); (case aO => exact (rwP HO_4.out)); (case aS => exact (below_size (hbP0 HB.out))); (case aL => have := LMc40.out; omega); intro v255 w42 ho hb hg hat; rw [← Ny254.out] at ho; have n0_ := Aside0.mk (Kd.S_after (ok := (fun _ => True)) (by (with_reducible repeat (first | apply Kd.S_alloc | apply Kd.S_drewN | apply Kd.S_drew)); exact Kd.S_mono HO_3.out (fun _ hk => ⟨trivial, hk⟩)) hg hat); have n1_ := Aside0.mk (Kd.R_after (ok := (fun k_ => some k_ ≠ (.slice (some ad243) t232.length co41 : Value).ownBlock)) (by (with_reducible repeat (first | apply Kd.R_alloc | apply Kd.R_drewN | apply Kd.R_drew)); exact Kd.R_mono HL243_0.out (fun _ hk => ⟨hk.2, hk.1⟩)) hg hat); have n2_ := Aside0.mk (Kd.R_after (ok := (fun k_ => some k_ ≠ (.slice (some ad243) t232.length co41 : Value).ownBlock)) (by (with_reducible repeat (first | apply Kd.R_alloc | apply Kd.R_drewN | apply Kd.R_drew)); exact Kd.R_mono HL244_0.out (fun _ hk => ⟨hk.2, hk.1⟩)) hg hat); have n3_ := Aside0.mk (hb); have n4_ := Aside0.mk (ho); clear HO_3; clear HL243_0; clear HL244_0; clear HB; clear HO_4; have HO_3 := n0_; have HL243_0 := n1_; have HL244_0 := n2_; have HB := n3_; have HO256 := n4_; clear n0_ n1_ n2_ n3_ n4_; clear ho hb hg hat)); try go_wp2_with (first | ((with_reducible refine gate_builtin (b := .append) (xs := #[.tmp 127, .tmp 129]) rfl ?_); (try (refine gate_guard (by rfl) ?_; dsimp only)); at_builtin; refine Kd.R_append (Kd.int .i64) (w0 := w) w.heap.size rfl (.tmp 127) (.tmp 129) 24 3 (.int .i64 0) 8 rfl Tryz.underlying24 info3 rfl (by decide) (by omega) u4 x4_1 x5_1 [.int .i64 x5_1] (fun _ => True) (fun _ => False) rfl rfl ?aP (fun _ hk => hk.elim) ?aF ?aO ?aB ?aS ?aL ?_; (case aP => exact rfl); (case aB => exact (hbP0 HB.out)); (case aF => exact (fun _ _ => trivial)); (case aO => exact (rwP HO_4.out)); (case aS => exact (below_size (hbP0 HB.out))); (case aL => have := LMc40.out; omega); intro v255 w42 ho hb hg hat; rw [← Ny254.out] at ho; have n0_ := Aside0.mk (Kd.S_after (ok := (fun _ => True)) (by (with_reducible repeat (first | apply Kd.S_alloc | apply Kd.S_drewN | apply Kd.S_drew)); exact Kd.S_mono HO_3.out (fun _ hk => ⟨trivial, hk⟩)) hg hat); have n1_ := Aside0.mk (Kd.R_after (ok := (fun k_ => some k_ ≠ (.slice (some ad243) t232.length co41 : Value).ownBlock)) (by (with_reducible repeat (first | apply Kd.R_alloc | apply Kd.R_drewN | apply Kd.R_drew)); exact Kd.R_mono HL243_0.out (fun _ hk => ⟨hk.2, hk.1⟩)) hg hat); have n2_ := Aside0.mk (Kd.R_after (ok := (fun k_ => some k_ ≠ (.slice (some ad243) t232.length co41 : Value).ownBlock)) (by (with_reducible repeat (first | apply Kd.R_alloc | apply Kd.R_drewN | apply Kd.R_drew)); exact Kd.R_mono HL244_0.out (fun _ hk => ⟨hk.2, hk.1⟩)) hg hat); have n3_ := Aside0.mk (hb); have n4_ := Aside0.mk (ho); clear HO_3; clear HL243_0; clear HL244_0; clear HB; clear HO_4; have HO_3 := n0_; have HL243_0 := n1_; have HL244_0 := n2_; have HB := n3_; have HO256 := n4_; clear n0_ n1_ n2_ n3_ n4_; clear ho hb hg hat)))
                           go_roundg k6
                           case measure => have := HK1.out; have := HJ4.out; have := HK3.out; have := HJ13.out; have := HJ24.out; have := HK6.out; omega
                           case rel => exact ⟨(y254), (wrap64 (x5_1 + 1)), vqP, H', ⟨by have := HK1.out; have := HJ4.out; have := HK3.out; have := HJ13.out; have := HJ24.out; have := HK6.out; omega⟩, ⟨by (with_reducible repeat (first | apply Kd.S_alloc | apply Kd.S_drewN | apply Kd.S_drew)); exact Kd.S_mono HO_3.out (fun _ hk => hk.2)⟩, ⟨rwP HO256.out⟩, ⟨hbP0 HB.out⟩⟩
                          ·rw [if_neg c40] at H
                           exact absurd H (by simp)
                         ·rw [if_neg c39] at H
                          have c39b0 : (((rd_T35 l0 x10_6).f0) == 17) = false := beq_eq_false_iff_ne.mpr c39
                          have c39b1 : (((rd_T35 l0 x10_6).f0) != 17) = true := bne_iff_ne.mpr c39
                          have H' := Aside0.mk H
                          clear H
                          obtain ⟨Ao43, co43, eo43⟩ := Kd.S_slice HO_3.out
                          subst eo43
                          have p243 : 0 ≤ (x10_6 : Int) := of_decide_eq_true (by first | (with_reducible assumption) | assumption)
                          have q243 : x10_6 < (t232.length : Int) := of_decide_eq_true (by first | (with_reducible assumption) | assumption)
                          obtain ⟨ad243, A243_0, c243_0, e243, hx243_0, hl243_0, hi243_0⟩ := at_L7 (Kd.S_reads' HO_3.out).2.2 x10_6 p243 q243
                          cases e243
                          obtain ⟨ce243, hce243, hMe243, hcc243⟩ := Kd.S_get HO_3.out [] x10_6 p243 (by first | exact q243 | exact of_decide_eq_true (by first | (with_reducible assumption) | assumption) | (have e_ := (Kd.S_reads' HO_3.out).1; omega))
                          obtain ⟨ve243_0, rfl, ge243_0⟩ := hMe243
                          have hv243_0 := hcc243 0 _ rfl
                          rw [Nat.add_zero, show ((Kd.slice 3 (Kd.int .i64))).sz = 1 from rfl, Nat.mul_one] at hv243_0
                          replace hv243_0 := Option.some.inj (hv243_0.symm.trans hx243_0)
                          rw [hv243_0] at ge243_0
                          have HL243_0 := Aside0.mk (show Kd.R (Kd.int .i64) 3 _ _ _ _ (rd_L7 t232 x10_6) from ge243_0)
                          clear hv243_0 ge243_0
                          clear hcc243 hce243
                          have HR243_0 := Aside0.mk hi243_0
                          have HC243_0 := Aside0.mk hl243_0
                          clear hi243_0 hl243_0
                          replace p243 := eq_true p243
                          replace q243 := eq_true q243
                          have p244 : 0 ≤ (x5_1 : Int) := of_decide_eq_true (by first | (with_reducible assumption) | assumption)
                          have q244 : x5_1 < (t232.length : Int) := of_decide_eq_true (by first | (with_reducible assumption) | assumption)
                          obtain ⟨ad244, A244_0, c244_0, e244, hx244_0, hl244_0, hi244_0⟩ := at_L7 (Kd.S_reads' HO_3.out).2.2 x5_1 p244 q244
                          obtain rfl : ad243 = ad244 := (by injection e244)
                          obtain ⟨ce244, hce244, hMe244, hcc244⟩ := Kd.S_get HO_3.out [] x5_1 p244 (by first | exact q244 | exact of_decide_eq_true (by first | (with_reducible assumption) | assumption) | (have e_ := (Kd.S_reads' HO_3.out).1; omega))
                          obtain ⟨ve244_0, rfl, ge244_0⟩ := hMe244
                          have hv244_0 := hcc244 0 _ rfl
                          rw [Nat.add_zero, show ((Kd.slice 3 (Kd.int .i64))).sz = 1 from rfl, Nat.mul_one] at hv244_0
                          replace hv244_0 := Option.some.inj (hv244_0.symm.trans hx244_0)
                          rw [hv244_0] at ge244_0
                          have HL244_0 := Aside0.mk (show Kd.R (Kd.int .i64) 3 _ _ _ _ (rd_L7 t232 x5_1) from ge244_0)
                          clear hv244_0 ge244_0
                          clear hcc244 hce244
                          have HR244_0 := Aside0.mk hi244_0
                          have HC244_0 := Aside0.mk hl244_0
                          clear hi244_0 hl244_0
                          replace p244 := eq_true p244
                          replace q244 := eq_true q244
                          have p245 : 0 ≤ (x10_6 : Int) := of_decide_eq_true (by first | (with_reducible assumption) | assumption)
                          have q245 : x10_6 < (l0.length : Int) := of_decide_eq_true (by first | (with_reducible assumption) | assumption)
                          obtain ⟨ad245, e245, hx245_0, hx245_1, hx245_2, hx245_3, hx245_4, hx245_5, hx245_6, hx245_7, hx245_8, hx245_9, hx245_10, hx245_11, hx245_12⟩ := at_T35 HR0.out x10_6 p245 q245
                          cases e245
                          replace hx245_0 := clB HB.out hx245_0
                          replace hx245_1 := clB HB.out hx245_1
                          replace hx245_2 := clB HB.out hx245_2
                          replace hx245_3 := clB HB.out hx245_3
                          replace hx245_4 := clB HB.out hx245_4
                          replace hx245_5 := clB HB.out hx245_5
                          replace hx245_6 := clB HB.out hx245_6
                          replace hx245_7 := clB HB.out hx245_7
                          replace hx245_8 := clB HB.out hx245_8
                          replace hx245_9 := clB HB.out hx245_9
                          replace hx245_10 := clB HB.out hx245_10
                          replace hx245_11 := clB HB.out hx245_11
                          replace hx245_12 := clB HB.out hx245_12
                          replace p245 := eq_true p245
                          replace q245 := eq_true q245
                          have p247 : 0 ≤ (x10_6 : Int) := of_decide_eq_true (by first | (with_reducible assumption) | assumption)
                          have q247 : x10_6 < (l0.length : Int) := of_decide_eq_true (by first | (with_reducible assumption) | assumption)
                          obtain ⟨ad247, e247, hx247_0, hx247_1, hx247_2, hx247_3, hx247_4, hx247_5, hx247_6, hx247_7, hx247_8, hx247_9, hx247_10, hx247_11, hx247_12⟩ := at_T35 HR0.out x10_6 p247 q247
                          obtain rfl : ad245 = ad247 := (by injection e247)
                          replace hx247_0 := clB HB.out hx247_0
                          replace hx247_1 := clB HB.out hx247_1
                          replace hx247_2 := clB HB.out hx247_2
                          replace hx247_3 := clB HB.out hx247_3
                          replace hx247_4 := clB HB.out hx247_4
                          replace hx247_5 := clB HB.out hx247_5
                          replace hx247_6 := clB HB.out hx247_6
                          replace hx247_7 := clB HB.out hx247_7
                          replace hx247_8 := clB HB.out hx247_8
                          replace hx247_9 := clB HB.out hx247_9
                          replace hx247_10 := clB HB.out hx247_10
                          replace hx247_11 := clB HB.out hx247_11
                          replace hx247_12 := clB HB.out hx247_12
                          replace p247 := eq_true p247
                          replace q247 := eq_true q247
                          have p252 : 0 ≤ (x10_6 : Int) := of_decide_eq_true (by first | (with_reducible assumption) | assumption)
                          have q252 : x10_6 < (l0.length : Int) := of_decide_eq_true (by first | (with_reducible assumption) | assumption)
                          obtain ⟨ad252, e252, hx252_0, hx252_1, hx252_2, hx252_3, hx252_4, hx252_5, hx252_6, hx252_7, hx252_8, hx252_9, hx252_10, hx252_11, hx252_12⟩ := at_T35 HR0.out x10_6 p252 q252
                          obtain rfl : ad245 = ad252 := (by injection e252)
                          replace hx252_0 := clB HB.out hx252_0
                          replace hx252_1 := clB HB.out hx252_1
                          replace hx252_2 := clB HB.out hx252_2
                          replace hx252_3 := clB HB.out hx252_3
                          replace hx252_4 := clB HB.out hx252_4
                          replace hx252_5 := clB HB.out hx252_5
                          replace hx252_6 := clB HB.out hx252_6
                          replace hx252_7 := clB HB.out hx252_7
                          replace hx252_8 := clB HB.out hx252_8
                          replace hx252_9 := clB HB.out hx252_9
                          replace hx252_10 := clB HB.out hx252_10
                          replace hx252_11 := clB HB.out hx252_11
                          replace hx252_12 := clB HB.out hx252_12
                          replace p252 := eq_true p252
                          replace q252 := eq_true q252
                          go_wp2
                          repeat (go_quiet (fail); try go_wp2)
                          go_roundg k6
                          case measure => have := HK1.out; have := HJ4.out; have := HK3.out; have := HJ13.out; have := HJ24.out; have := HK6.out; omega
                          case rel => exact ⟨(x9_6), (wrap64 (x10_6 + 1)), vqP, vqP, H', ⟨by have := HK1.out; have := HJ4.out; have := HK3.out; have := HJ13.out; have := HJ24.out; have := HK6.out; omega⟩, ⟨by (with_reducible repeat (first | apply Kd.S_alloc | apply Kd.S_drewN | apply Kd.S_drew)); exact HO_3.out⟩, ⟨rwP HO_4.out⟩, ⟨hbP0 HB.out⟩⟩
                      ·rw [if_neg c33] at H
                       have c33b0 : (((rd_L7 t232 x10_6).length : Int) == ((rd_L7 t232 x5_1).length : Int)) = false := beq_eq_false_iff_ne.mpr c33
                       have c33b1 : (((rd_L7 t232 x10_6).length : Int) != ((rd_L7 t232 x5_1).length : Int)) = true := bne_iff_ne.mpr c33
                       have c33b2 : ((rd_L7 t232 x10_6).length == (rd_L7 t232 x5_1).length) = false := by first | simpa using c33 | (simp at c33 ⊢; omega)
                       have H' := Aside0.mk H
                       clear H
                       obtain ⟨Ao44, co44, eo44⟩ := Kd.S_slice HO_3.out
                       subst eo44
                       have p243 : 0 ≤ (x10_6 : Int) := of_decide_eq_true (by first | (with_reducible assumption) | assumption)
                       have q243 : x10_6 < (t232.length : Int) := of_decide_eq_true (by first | (with_reducible assumption) | assumption)
                       obtain ⟨ad243, A243_0, c243_0, e243, hx243_0, hl243_0, hi243_0⟩ := at_L7 (Kd.S_reads' HO_3.out).2.2 x10_6 p243 q243
                       cases e243
                       obtain ⟨ce243, hce243, hMe243, hcc243⟩ := Kd.S_get HO_3.out [] x10_6 p243 (by first | exact q243 | exact of_decide_eq_true (by first | (with_reducible assumption) | assumption) | (have e_ := (Kd.S_reads' HO_3.out).1; omega))
                       obtain ⟨ve243_0, rfl, ge243_0⟩ := hMe243
                       have hv243_0 := hcc243 0 _ rfl
                       rw [Nat.add_zero, show ((Kd.slice 3 (Kd.int .i64))).sz = 1 from rfl, Nat.mul_one] at hv243_0
                       replace hv243_0 := Option.some.inj (hv243_0.symm.trans hx243_0)
                       rw [hv243_0] at ge243_0
                       have HL243_0 := Aside0.mk (show Kd.R (Kd.int .i64) 3 _ _ _ _ (rd_L7 t232 x10_6) from ge243_0)
                       clear hv243_0 ge243_0
                       clear hcc243 hce243
                       have HR243_0 := Aside0.mk hi243_0
                       have HC243_0 := Aside0.mk hl243_0
                       clear hi243_0 hl243_0
                       replace p243 := eq_true p243
                       replace q243 := eq_true q243
                       have p244 : 0 ≤ (x5_1 : Int) := of_decide_eq_true (by first | (with_reducible assumption) | assumption)
                       have q244 : x5_1 < (t232.length : Int) := of_decide_eq_true (by first | (with_reducible assumption) | assumption)
                       obtain ⟨ad244, A244_0, c244_0, e244, hx244_0, hl244_0, hi244_0⟩ := at_L7 (Kd.S_reads' HO_3.out).2.2 x5_1 p244 q244
                       obtain rfl : ad243 = ad244 := (by injection e244)
                       obtain ⟨ce244, hce244, hMe244, hcc244⟩ := Kd.S_get HO_3.out [] x5_1 p244 (by first | exact q244 | exact of_decide_eq_true (by first | (with_reducible assumption) | assumption) | (have e_ := (Kd.S_reads' HO_3.out).1; omega))
                       obtain ⟨ve244_0, rfl, ge244_0⟩ := hMe244
                       have hv244_0 := hcc244 0 _ rfl
                       rw [Nat.add_zero, show ((Kd.slice 3 (Kd.int .i64))).sz = 1 from rfl, Nat.mul_one] at hv244_0
                       replace hv244_0 := Option.some.inj (hv244_0.symm.trans hx244_0)
                       rw [hv244_0] at ge244_0
                       have HL244_0 := Aside0.mk (show Kd.R (Kd.int .i64) 3 _ _ _ _ (rd_L7 t232 x5_1) from ge244_0)
                       clear hv244_0 ge244_0
                       clear hcc244 hce244
                       have HR244_0 := Aside0.mk hi244_0
                       have HC244_0 := Aside0.mk hl244_0
                       clear hi244_0 hl244_0
                       replace p244 := eq_true p244
                       replace q244 := eq_true q244
                       go_wp2
                       repeat (go_quiet (fail); try go_wp2)
                       go_roundg k6
                       case measure => have := HK1.out; have := HJ4.out; have := HK3.out; have := HJ13.out; have := HJ24.out; have := HK6.out; omega
                       case rel => exact ⟨(x9_6), (wrap64 (x10_6 + 1)), vqP, vqP, H', ⟨by have := HK1.out; have := HJ4.out; have := HK3.out; have := HJ13.out; have := HJ24.out; have := HK6.out; omega⟩, ⟨by (with_reducible repeat (first | apply Kd.S_alloc | apply Kd.S_drewN | apply Kd.S_drew)); exact HO_3.out⟩, ⟨rwP HO_4.out⟩, ⟨hbP0 HB.out⟩⟩
                     ·rw [if_neg c32] at H
                      exact absurd H (by simp)
                    ·rw [if_neg c31] at H
                     exact absurd H (by simp)
                   ·rw [if_neg c30] at H
                    exact absurd H (by simp)
                  ·rw [if_neg c29] at H
                   exact absurd H (by simp)
                 ·rw [if_neg c28] at H
                  have c28b0 : decide (x10_6 < (l0.length : Int)) = false := decide_eq_false c28
                  clear c28
                  by_cases c45 : x9_6 = true
                  ·subst c45
                   have H1 : (if x4_1.length < 17592186044416 then (r17_Colons.l0 k6 l0 t232 (x4_1 ++ [x5_1]) (wrap64 (x5_1 + 1))) else (none)) = some r := by rw [if_pos rfl] at H; exact H
                   clear H
                   have H := H1
                   clear H1
                   by_cases c46 : x4_1.length < 17592186044416
                   ·rw [if_pos c46] at H
                    have LMc46 := Aside0.mk c46
                    clear c46
                    obtain ⟨y257, hy257⟩ : ∃ y_ : List Int, y_ = (x4_1 ++ [x5_1]) := ⟨_, rfl⟩
                    replace H : (r17_Colons.l0 k6 l0 t232 y257 (wrap64 (x5_1 + 1))) = some r := by first | (rw [hy257]; with_reducible exact H) | (have H2_ := (Option.bind_some _ _).symm.trans H; rw [hy257]; with_reducible exact H2_) | (have H2_ := (Option.bind_some _ _).symm.trans H; with_reducible exact H2_) | with_reducible exact H | (rw [hy257]; exact H) | exact H
                    have Ny257 := Aside0.mk hy257
                    clear hy257
                    have H' := Aside0.mk H
                    clear H
                    go_wp2_with (first | ((with_reducible refine gate_builtin (b := .append) (xs := #[.tmp 127, .tmp 129]) rfl ?_); (try (refine gate_guard (by rfl) ?_; dsimp only)); at_builtin; refine Kd.R_append (Kd.int .i64) (w0 := w) w.heap.size rfl (.tmp 127) (.tmp 129) 24 3 (.int .i64 0) 8 rfl Tryz.underlying24 info3 rfl (by decide) (by omega) u4 x4_1 x5_1 [.int .i64 x5_1] (fun _ => True) (fun _ => False) rfl rfl ?aP (fun _ hk => hk.elim) ?aF ?aO ?aB ?aS ?aL ?_; (case aP => exact rfl); (case aB => exact (hbP0 HB.out)); (case aF => exact (fun _ _ => trivial)); (case aO => exact (rwP HO_4.out)); (case aS => exact (below_size (hbP0 HB.out))); (case aL => have := LMc46.out; omega); intro v258 w47 ho hb hg hat; rw [← Ny257.out] at ho; have n0_ := Aside0.mk (Kd.S_after (ok := (fun _ => True)) (by (with_reducible repeat (first | apply Kd.S_alloc | apply Kd.S_drewN | apply Kd.S_drew)); exact Kd.S_mono HO_3.out (fun _ hk => ⟨trivial, hk⟩)) hg hat); have n1_ := Aside0.mk (hb); have n2_ := Aside0.mk (ho); clear HO_3; clear HB; clear HO_4; have HO_3 := n0_; have HB := n1_; have HO259 := n2_; clear n0_ n1_ n2_; clear ho hb hg hat))
                    go_roundg k6
                    case measure => have := HK1.out; have := HJ4.out; have := HK3.out; have := HJ13.out; have := HJ24.out; have := HK6.out; omega
                    case rel => exact ⟨(y257), (wrap64 (x5_1 + 1)), vqP, H', ⟨by have := HK1.out; have := HJ4.out; have := HK3.out; have := HJ13.out; have := HJ24.out; have := HK6.out; omega⟩, ⟨by (with_reducible repeat (first | apply Kd.S_alloc | apply Kd.S_drewN | apply Kd.S_drew)); exact Kd.S_mono HO_3.out (fun _ hk => hk.2)⟩, ⟨rwP HO259.out⟩, ⟨hbP0 HB.out⟩⟩
                   ·rw [if_neg c46] at H
                    exact absurd H (by simp)
                  ·replace c45 := Bool.eq_false_iff.mpr c45
                   subst c45
                   have H1 : (none) = some r := by rw [if_neg (show ¬ (false = true) by decide)] at H; exact H
                   clear H
                   have H := H1
                   clear H1
                   exact absurd H (by simp)
   ·rw [if_neg c4] at H
    have c4b0 : decide (x5_1 < (l0.length : Int)) = false := decide_eq_false c4
    clear c4
    obtain rfl := Option.some.inj H
    go_wp2
    go_ret
    exact ⟨_, by first | rfl | (simp [errW_none, errW_some] <;> rfl) | (simp [*, errW_none, errW_some] <;> rfl), by exact rwP HO_4.out, hbP0 HB.out⟩
end Go.Proofs.YthonpnaccjajcaaGreatDoor.P
