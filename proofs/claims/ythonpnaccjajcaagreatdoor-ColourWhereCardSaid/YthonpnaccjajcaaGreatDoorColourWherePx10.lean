import Derived.Test.YthonpnaccjajcaaGreatDoorColourWherePx6
import Derived.Test.YthonpnaccjajcaaGreatDoorColourWherePx7
import Derived.Test.YthonpnaccjajcaaGreatDoorColourWherePx9
namespace Go.Proofs.YthonpnaccjajcaaGreatDoor.P
open Go.RowKit Go.Proofs.YthonpnaccjajcaaGreatDoorW.PrintWords Go.Proofs.YthonpnaccjajcaaGreatDoorW.PrintLast Go.Proofs.YthonpnaccjajcaaGreatDoorW.PrintMore Go.Proofs.YthonpnaccjajcaaGreatDoorX
attribute [local go_sem] max2_int min2_int max_two min_two max_three min_three max_four min_four
set_option linter.unusedVariables false
set_option linter.unusedSimpArgs false
mutual
def cvalue_Colons.l0 : Nat → List (S35) → List (S46) → List Int → Int → Bool → List (S35) → Int → Int → Option (List Int)
 | 0, _, _, _, _, _, _, _, _ => none
 | k + 1, x0, x3, x4, x5, x6, x11, x12, x13 => if x13 < x12 then (if 0 ≤ x13 then (if x13 < (x11.length : Int) then ((cvalue_Blank.f ((rd_T35 x11 x13).f0) ((rd_T35 x11 x13).f1) ((rd_T35 x11 x13).f2) ((rd_T35 x11 x13).f3.f0) ((rd_T35 x11 x13).f3.f1) ((rd_T35 x11 x13).f3.f2) ((rd_T35 x11 x13).f4) ((rd_T35 x11 x13).f5) ((rd_T35 x11 x13).f6.f0) ((rd_T35 x11 x13).f6.f1) ((rd_T35 x11 x13).f6.f2) ((rd_T35 x11 x13).f6.f3) ((rd_T35 x11 x13).f7)).bind fun t154 => (if t154 = true then (cvalue_Colons.l0 k x0 x3 x4 x5 x6 x11 x12 (wrap64 (x13 + 1))) else ((cvalue_part.f ((rd_T35 x11 x13).f0) ((rd_T35 x11 x13).f1) ((rd_T35 x11 x13).f2) ((rd_T35 x11 x13).f3.f0) ((rd_T35 x11 x13).f3.f1) ((rd_T35 x11 x13).f3.f2) ((rd_T35 x11 x13).f4) ((rd_T35 x11 x13).f5) ((rd_T35 x11 x13).f6.f0) ((rd_T35 x11 x13).f6.f1) ((rd_T35 x11 x13).f6.f2) ((rd_T35 x11 x13).f6.f3) ((rd_T35 x11 x13).f7)).bind fun t155 => (if t155 = true then (if x13 < (x3.length : Int) then (cvalue_Colons.j1 k x0 x3 x4 x5 x6 x13 x11 x12 x13 ((rd_T46 x3 x13).f1) ((rd_T35 x11 x13).f0) ((rd_T35 x11 x13).f1) ((rd_T35 x11 x13).f2) ((rd_T35 x11 x13).f3.f0) ((rd_T35 x11 x13).f3.f1) ((rd_T35 x11 x13).f3.f2) ((rd_T35 x11 x13).f4) ((rd_T35 x11 x13).f5) ((rd_T35 x11 x13).f6.f0) ((rd_T35 x11 x13).f6.f1) ((rd_T35 x11 x13).f6.f2) ((rd_T35 x11 x13).f6.f3) ((rd_T35 x11 x13).f7)) else (none)) else (cvalue_Colons.j1 k x0 x3 x4 x5 x6 x13 x11 x12 x13 false ((rd_T35 x11 x13).f0) ((rd_T35 x11 x13).f1) ((rd_T35 x11 x13).f2) ((rd_T35 x11 x13).f3.f0) ((rd_T35 x11 x13).f3.f1) ((rd_T35 x11 x13).f3.f2) ((rd_T35 x11 x13).f4) ((rd_T35 x11 x13).f5) ((rd_T35 x11 x13).f6.f0) ((rd_T35 x11 x13).f6.f1) ((rd_T35 x11 x13).f6.f2) ((rd_T35 x11 x13).f6.f3) ((rd_T35 x11 x13).f7)))))) else (none)) else (none)) else (some x4)
def cvalue_Colons.j1 : Nat → List (S35) → List (S46) → List Int → Int → Bool → Int → List (S35) → Int → Int → Bool → Int → ByteArray → ByteArray → Bool → ByteArray → ByteArray → Bool → Bool → Int → Int → Int → Int → Int → Option (List Int)
 | 0, _, _, _, _, _, _, _, _, _, _, _, _, _, _, _, _, _, _, _, _, _, _, _ => none
 | k + 1, x0, x3, x4, x5, x6, x7, x11, x12, x13, x21, x154000, x154001, x154002, x154003, x154004, x154005, x154006, x154007, x154008, x154009, x154010, x154011, x154012 => if x21 = true then (cvalue_Colons.l0 k x0 x3 x4 0 x6 x11 x12 (wrap64 (x13 + 1))) else (if x154000 = 16 then (if 0 ≤ x7 then (if x7 < (x3.length : Int) then (if (rd_T46 x3 x7).f1 = true then (if ((rd_T46 x3 x7).f0) > 0 then (if x5 = 1 then (if x6 = true then ((cvalue_plain.f k x0 x3 x7).bind fun t159 => (if t159 = true then (if x4.length < 17592186044416 then (cvalue_Colons.l0 k x0 x3 (x4 ++ [x7]) (wrap64 (x5 + 1)) (x154000 == 1) x11 x12 (wrap64 (x13 + 1))) else (none)) else (none))) else (none)) else (none)) else (cvalue_Colons.l0 k x0 x3 x4 (wrap64 (x5 + 1)) (x154000 == 1) x11 x12 (wrap64 (x13 + 1)))) else (none)) else (none)) else (none)) else (cvalue_Colons.l0 k x0 x3 x4 (wrap64 (x5 + 1)) (x154000 == 1) x11 x12 (wrap64 (x13 + 1))))
end
def cvalue_Colons.f (k : Nat) (l0 : List (S35)) : Option (List Int) := (cvalue_Places.f k l0).bind fun t149 => (cvalue_Colons.l0 k l0 t149 ([] : List Int) 0 false l0 (l0.length : Int) 0)
set_option maxHeartbeats 8000000 in
set_option maxRecDepth 100000 in
theorem cvalue_Colons.calls (k : Nat) (A0 : Option Addr) (c0 : Nat) (l0 : List (S35)) (r : List Int) (w : World) (hr0 : Kd.C k35 w A0 l0.length l0) (hc0 : l0.length ≤ c0) (h : cvalue_Colons.f k l0 = some r) :
  Calls Tryz.prog 13 #[.slice A0 l0.length c0] w fun e w' => ∃ v0_ : Value, e = .returned (v0_) ∧ Kd.R (Kd.int .i64) 3 w' w.heap.size (fun _ => True) v0_ r ∧ Below w.heap.size w w' := by
 have hu35 := Tryz.underlying35
 have HR0 := Aside0.mk hr0
 have HC0 := Aside0.mk hc0
 clear hr0 hc0
 have HB := Aside0.mk (Below.refl w.heap.size w)
 have H : ((cvalue_Places.f k l0).bind fun t149 => (cvalue_Colons.l0 k l0 t149 ([] : List Int) 0 false l0 (l0.length : Int) 0)) = some r := h
 clear h
 replace H := Option.bind_eq_some_iff.mp H
 obtain ⟨t149, A20, H⟩ := H
 replace H : (cvalue_Colons.l0 k l0 t149 ([] : List Int) 0 false l0 (l0.length : Int) 0) = some r := H
 have A2 := Aside0.mk A20
 clear A20
 have H' := Aside0.mk H
 clear H
 go_enter Tryz.func13, Tryz.ntmps13
 go_wp2_with (first | (go_at_call 12; (with_reducible refine (cvalue_Places.calls k _ _ l0 t149 _ ?side1 ?side2 A2.out).mono ?_); (case side1 => repeat (first | exact HR0.out | (with_reducible refine Kd.C_alloc ?_ _) | (with_reducible refine Kd.C_drewN ?_ _) | (with_reducible refine Kd.C_drew ?_))); (case side2 => exact HC0.out); rintro e w3 ⟨v150, rfl, ho0, hb⟩; have n0_ := Aside0.mk (Kd.R_lower ho0 (below_size (hbP0 HB.out))); have n1_ := Aside0.mk (below_step (hbP0 HB.out) hb); clear HB; have HO151 := n0_; have HB := n1_; clear n0_ n1_; (try clear hb); (try clear hb2); (try clear hk); (try clear hi); (try clear ho0)))
 go_loopg [4, 5, 6, 13] k (fun kq v4 v5 v6 v13 w' => ∃ (x4_1 : List Int) (x5_1 : Int) (x6_1 : Bool) (x13_1 : Int), v5 = .int .i64 x5_1 ∧ v6 = .bool x6_1 ∧ v13 = .int .i64 x13_1 ∧ Aside0 (cvalue_Colons.l0 kq l0 t149 x4_1 x5_1 x6_1 l0 (l0.length : Int) x13_1 = some r) ∧ Aside0 (kq ≤ k) ∧ Aside0 (Kd.R k46 46 w' w.heap.size (fun _ => True) v150 t149) ∧ Aside0 (Kd.R (Kd.int .i64) 3 w' w.heap.size (fun _ => True) v4 x4_1) ∧ Aside0 (Below w.heap.size w w'))
 case atStart => exact ⟨(([] : List Int)), (0), (false), (0), vqP, vqP, vqP, H', ⟨Nat.le_refl _⟩, ⟨rwP HO151.out⟩, ⟨by first | exact Kd.R_nil _ _ _ _ _ | exact Kd.N_nil _ _ _ _ _ | exact Kd.V_nil _ _ _ _ _ | exact Kd.Q_nil _ _ _ _ _ | exact Kd.S_nil _ _ _ _ _⟩, ⟨hbP0 HB.out⟩⟩
 case round =>
  clear H'
  obtain ⟨x4_1, x5_1, x6_1, x13_1, rfl, rfl, rfl, HA, HK1, HO_3, HO_4, HB⟩ := hrel
  cases gk with
  | zero => exact absurd HA.out (by simp [cvalue_Colons.l0])
  | succ k1 =>
   have H := HA.out
   clear HA
   simp only [cvalue_Colons.l0] at H
   by_cases c4 : x13_1 < (l0.length : Int)
   ·rw [if_pos c4] at H
    have c4b0 : decide (x13_1 < (l0.length : Int)) = true := decide_eq_true c4
    clear c4
    by_cases c5 : 0 ≤ x13_1
    ·rw [if_pos c5] at H
     have c5b0 : decide (0 ≤ x13_1) = true := decide_eq_true c5
     clear c5
     by_cases c6 : x13_1 < (l0.length : Int)
     ·rw [if_pos c6] at H
      have c6b0 : decide (x13_1 < (l0.length : Int)) = true := decide_eq_true c6
      clear c6
      replace H := Option.bind_eq_some_iff.mp H
      obtain ⟨t154, A70, H⟩ := H
      replace H : (if t154 = true then (cvalue_Colons.l0 k1 l0 t149 x4_1 x5_1 x6_1 l0 (l0.length : Int) (wrap64 (x13_1 + 1))) else ((cvalue_part.f ((rd_T35 l0 x13_1).f0) ((rd_T35 l0 x13_1).f1) ((rd_T35 l0 x13_1).f2) ((rd_T35 l0 x13_1).f3.f0) ((rd_T35 l0 x13_1).f3.f1) ((rd_T35 l0 x13_1).f3.f2) ((rd_T35 l0 x13_1).f4) ((rd_T35 l0 x13_1).f5) ((rd_T35 l0 x13_1).f6.f0) ((rd_T35 l0 x13_1).f6.f1) ((rd_T35 l0 x13_1).f6.f2) ((rd_T35 l0 x13_1).f6.f3) ((rd_T35 l0 x13_1).f7)).bind fun t155 => (if t155 = true then (if x13_1 < (t149.length : Int) then (cvalue_Colons.j1 k1 l0 t149 x4_1 x5_1 x6_1 x13_1 l0 (l0.length : Int) x13_1 ((rd_T46 t149 x13_1).f1) ((rd_T35 l0 x13_1).f0) ((rd_T35 l0 x13_1).f1) ((rd_T35 l0 x13_1).f2) ((rd_T35 l0 x13_1).f3.f0) ((rd_T35 l0 x13_1).f3.f1) ((rd_T35 l0 x13_1).f3.f2) ((rd_T35 l0 x13_1).f4) ((rd_T35 l0 x13_1).f5) ((rd_T35 l0 x13_1).f6.f0) ((rd_T35 l0 x13_1).f6.f1) ((rd_T35 l0 x13_1).f6.f2) ((rd_T35 l0 x13_1).f6.f3) ((rd_T35 l0 x13_1).f7)) else (none)) else (cvalue_Colons.j1 k1 l0 t149 x4_1 x5_1 x6_1 x13_1 l0 (l0.length : Int) x13_1 false ((rd_T35 l0 x13_1).f0) ((rd_T35 l0 x13_1).f1) ((rd_T35 l0 x13_1).f2) ((rd_T35 l0 x13_1).f3.f0) ((rd_T35 l0 x13_1).f3.f1) ((rd_T35 l0 x13_1).f3.f2) ((rd_T35 l0 x13_1).f4) ((rd_T35 l0 x13_1).f5) ((rd_T35 l0 x13_1).f6.f0) ((rd_T35 l0 x13_1).f6.f1) ((rd_T35 l0 x13_1).f6.f2) ((rd_T35 l0 x13_1).f6.f3) ((rd_T35 l0 x13_1).f7))))) = some r := H
      have A7 := Aside0.mk A70
      clear A70
      by_cases c8 : t154 = true
      ·subst c8
       have H1 : (cvalue_Colons.l0 k1 l0 t149 x4_1 x5_1 x6_1 l0 (l0.length : Int) (wrap64 (x13_1 + 1))) = some r := by rw [if_pos rfl] at H; exact H
       clear H
       have H := H1
       clear H1
       have H' := Aside0.mk H
       clear H
       have p152 : 0 ≤ (x13_1 : Int) := of_decide_eq_true (by first | (with_reducible assumption) | assumption)
       have q152 : x13_1 < (l0.length : Int) := of_decide_eq_true (by first | (with_reducible assumption) | assumption)
       obtain ⟨ad152, e152, hx152_0, hx152_1, hx152_2, hx152_3, hx152_4, hx152_5, hx152_6, hx152_7, hx152_8, hx152_9, hx152_10, hx152_11, hx152_12⟩ := at_T35 HR0.out x13_1 p152 q152
       cases e152
       replace hx152_0 := clB HB.out hx152_0
       replace hx152_1 := clB HB.out hx152_1
       replace hx152_2 := clB HB.out hx152_2
       replace hx152_3 := clB HB.out hx152_3
       replace hx152_4 := clB HB.out hx152_4
       replace hx152_5 := clB HB.out hx152_5
       replace hx152_6 := clB HB.out hx152_6
       replace hx152_7 := clB HB.out hx152_7
       replace hx152_8 := clB HB.out hx152_8
       replace hx152_9 := clB HB.out hx152_9
       replace hx152_10 := clB HB.out hx152_10
       replace hx152_11 := clB HB.out hx152_11
       replace hx152_12 := clB HB.out hx152_12
       replace p152 := eq_true p152
       replace q152 := eq_true q152
       go_wp2_with (first | ((with_reducible refine gate_dst (N := 8) rfl ?_); refine box_event ?hg (N := 8) ?hd (cs := #[.int .i64 0, .string (⟨#[]⟩ : ByteArray), .string (⟨#[]⟩ : ByteArray), .bool false, .string (⟨#[]⟩ : ByteArray), .string (⟨#[]⟩ : ByteArray), .bool false, .bool false, .int .i64 0, .int .i64 0, .int .i64 0, .int .i64 0, .int .i64 0]) (t := 35) ?hr ?_; (case hd => rfl); (case hg => rfl); (case hr => first | (go_simp; done) | (go_simp; rfl)); intro gb153 hg w9 hbox hb; have n0_ := Aside0.mk (Kd.R_below (rwP HO_3.out) hb); have n1_ := Aside0.mk (Kd.R_below (rwP HO_4.out) hb); have n2_ := Aside0.mk (below_step (hbP0 HB.out) hb); have n3_ := Aside0.mk (hbox); have n4_ := Aside0.mk ((by rw [hg]; exact (below_size (hbP0 HB.out)) : w.heap.size ≤ gb153)); have n5_ := Aside0.mk ((by rw [hg]; exact (below_size (hbP0 HB.out)) : w.heap.size ≤ gb153)); clear HO_3; clear HO_4; clear HB; have HO_3 := n0_; have HO_4 := n1_; have HB := n2_; have BK153 := n3_; have GW153 := n4_; have GE153 := n5_; clear n0_ n1_ n2_ n3_ n4_ n5_; clear hb hbox hg; have hcz10_0 : w9.cell? ⟨gb153, 0, none⟩ = some (.int .i64 0) := (blk_cell BK153.out 0).trans rfl; have hcz10_1 : w9.cell? ⟨gb153, 1, none⟩ = some (.string (⟨#[]⟩ : ByteArray)) := (blk_cell BK153.out 1).trans rfl; have hcz10_2 : w9.cell? ⟨gb153, 2, none⟩ = some (.string (⟨#[]⟩ : ByteArray)) := (blk_cell BK153.out 2).trans rfl; have hcz10_3 : w9.cell? ⟨gb153, 3, none⟩ = some (.bool false) := (blk_cell BK153.out 3).trans rfl; have hcz10_4 : w9.cell? ⟨gb153, 4, none⟩ = some (.string (⟨#[]⟩ : ByteArray)) := (blk_cell BK153.out 4).trans rfl; have hcz10_5 : w9.cell? ⟨gb153, 5, none⟩ = some (.string (⟨#[]⟩ : ByteArray)) := (blk_cell BK153.out 5).trans rfl; have hcz10_6 : w9.cell? ⟨gb153, 6, none⟩ = some (.bool false) := (blk_cell BK153.out 6).trans rfl; have hcz10_7 : w9.cell? ⟨gb153, 7, none⟩ = some (.bool false) := (blk_cell BK153.out 7).trans rfl; have hcz10_8 : w9.cell? ⟨gb153, 8, none⟩ = some (.int .i64 0) := (blk_cell BK153.out 8).trans rfl; have hcz10_9 : w9.cell? ⟨gb153, 9, none⟩ = some (.int .i64 0) := (blk_cell BK153.out 9).trans rfl; have hcz10_10 : w9.cell? ⟨gb153, 10, none⟩ = some (.int .i64 0) := (blk_cell BK153.out 10).trans rfl; have hcz10_11 : w9.cell? ⟨gb153, 11, none⟩ = some (.int .i64 0) := (blk_cell BK153.out 11).trans rfl; have hcz10_12 : w9.cell? ⟨gb153, 12, none⟩ = some (.int .i64 0) := (blk_cell BK153.out 12).trans rfl; have hfz10_0 := blk_frozen BK153.out 0; have hfz10_1 := blk_frozen BK153.out 1; have hfz10_2 := blk_frozen BK153.out 2; have hfz10_3 := blk_frozen BK153.out 3; have hfz10_4 := blk_frozen BK153.out 4; have hfz10_5 := blk_frozen BK153.out 5; have hfz10_6 := blk_frozen BK153.out 6; have hfz10_7 := blk_frozen BK153.out 7; have hfz10_8 := blk_frozen BK153.out 8; have hfz10_9 := blk_frozen BK153.out 9; have hfz10_10 := blk_frozen BK153.out 10; have hfz10_11 := blk_frozen BK153.out 11; have hfz10_12 := blk_frozen BK153.out 12) | ((with_reducible refine gate_store (t := 35) (p := 8) rfl ?_); (try (rw [drewN_self w9]; generalize hq_ : World.drewN w9 _ = w9; have n0_ := Aside0.mk (Kd.R_at hq_ HO_3.out); have n1_ := Aside0.mk (Kd.R_at hq_ HO_4.out); have n2_ := Aside0.mk (blk_at hq_ BK153.out); have n3_ := Aside0.mk (below_at hq_ HB.out); clear hq_ HO_3 HO_4 BK153 HB; have HO_3 := n0_; have HO_4 := n1_; have BK153 := n2_; have HB := n3_; clear n0_ n1_ n2_ n3_)); refine store_all13 (t := 35) (p := 8) (v := ?vo_w11) gb153 (.int .i64 ((rd_T35 l0 x13_1).f0)) (.string ((rd_T35 l0 x13_1).f1)) (.string ((rd_T35 l0 x13_1).f2)) (.bool ((rd_T35 l0 x13_1).f3.f0)) (.string ((rd_T35 l0 x13_1).f3.f1)) (.string ((rd_T35 l0 x13_1).f3.f2)) (.bool ((rd_T35 l0 x13_1).f4)) (.bool ((rd_T35 l0 x13_1).f5)) (.int .i64 ((rd_T35 l0 x13_1).f6.f0)) (.int .i64 ((rd_T35 l0 x13_1).f6.f1)) (.int .i64 ((rd_T35 l0 x13_1).f6.f2)) (.int .i64 ((rd_T35 l0 x13_1).f6.f3)) (.int .i64 ((rd_T35 l0 x13_1).f7)) ?hg ?ho ?hn (bkP BK153.out) ?hx ?hy ?hi ?h1 ?_; (case ho => rfl); (case hg => rfl); (case hn => rfl); (case hx => first | rfl | (go_simp; done) | (go_simp; rfl)); (case hy => first | with_reducible rfl | (go_simp; done) | (go_simp; rfl)); (case hi => kernel_rfl); (case h1 => rfl); intro w11 hw; have n0_ : Aside0 (Kd.R k46 46 w11 w.heap.size (fun _ => True) v150 t149) := ⟨(by rw [hw]; exact (by (with_reducible repeat (first | apply Kd.R_alloc | apply Kd.R_drewN | apply Kd.R_drew)); exact Kd.R_mono (Kd.R_far (p := ⟨gb153, 12, none⟩) (Kd.R_far (p := ⟨gb153, 11, none⟩) (Kd.R_far (p := ⟨gb153, 10, none⟩) (Kd.R_far (p := ⟨gb153, 9, none⟩) (Kd.R_far (p := ⟨gb153, 8, none⟩) (Kd.R_far (p := ⟨gb153, 7, none⟩) (Kd.R_far (p := ⟨gb153, 6, none⟩) (Kd.R_far (p := ⟨gb153, 5, none⟩) (Kd.R_far (p := ⟨gb153, 4, none⟩) (Kd.R_far (p := ⟨gb153, 3, none⟩) (Kd.R_far (p := ⟨gb153, 2, none⟩) (Kd.R_far (p := ⟨gb153, 1, none⟩) (Kd.R_far (p := ⟨gb153, 0, none⟩) (Kd.R_types HO_3.out BK153.out (by decide)) (fun _ hk => hk.2) (.int .i64 ((rd_T35 l0 x13_1).f0))) (fun _ hk => hk.2) (.string ((rd_T35 l0 x13_1).f1))) (fun _ hk => hk.2) (.string ((rd_T35 l0 x13_1).f2))) (fun _ hk => hk.2) (.bool ((rd_T35 l0 x13_1).f3.f0))) (fun _ hk => hk.2) (.string ((rd_T35 l0 x13_1).f3.f1))) (fun _ hk => hk.2) (.string ((rd_T35 l0 x13_1).f3.f2))) (fun _ hk => hk.2) (.bool ((rd_T35 l0 x13_1).f4))) (fun _ hk => hk.2) (.bool ((rd_T35 l0 x13_1).f5))) (fun _ hk => hk.2) (.int .i64 ((rd_T35 l0 x13_1).f6.f0))) (fun _ hk => hk.2) (.int .i64 ((rd_T35 l0 x13_1).f6.f1))) (fun _ hk => hk.2) (.int .i64 ((rd_T35 l0 x13_1).f6.f2))) (fun _ hk => hk.2) (.int .i64 ((rd_T35 l0 x13_1).f6.f3))) (fun _ hk => hk.2) (.int .i64 ((rd_T35 l0 x13_1).f7))) (fun _ hk => trivial)))⟩; have n1_ : Aside0 (Kd.R (Kd.int .i64) 3 w11 w.heap.size (fun _ => True) u4 x4_1) := ⟨(by rw [hw]; exact (by (with_reducible repeat (first | apply Kd.R_alloc | apply Kd.R_drewN | apply Kd.R_drew)); exact Kd.R_mono (Kd.R_far (p := ⟨gb153, 12, none⟩) (Kd.R_far (p := ⟨gb153, 11, none⟩) (Kd.R_far (p := ⟨gb153, 10, none⟩) (Kd.R_far (p := ⟨gb153, 9, none⟩) (Kd.R_far (p := ⟨gb153, 8, none⟩) (Kd.R_far (p := ⟨gb153, 7, none⟩) (Kd.R_far (p := ⟨gb153, 6, none⟩) (Kd.R_far (p := ⟨gb153, 5, none⟩) (Kd.R_far (p := ⟨gb153, 4, none⟩) (Kd.R_far (p := ⟨gb153, 3, none⟩) (Kd.R_far (p := ⟨gb153, 2, none⟩) (Kd.R_far (p := ⟨gb153, 1, none⟩) (Kd.R_far (p := ⟨gb153, 0, none⟩) (Kd.R_types HO_4.out BK153.out (by decide)) (fun _ hk => hk.2) (.int .i64 ((rd_T35 l0 x13_1).f0))) (fun _ hk => hk.2) (.string ((rd_T35 l0 x13_1).f1))) (fun _ hk => hk.2) (.string ((rd_T35 l0 x13_1).f2))) (fun _ hk => hk.2) (.bool ((rd_T35 l0 x13_1).f3.f0))) (fun _ hk => hk.2) (.string ((rd_T35 l0 x13_1).f3.f1))) (fun _ hk => hk.2) (.string ((rd_T35 l0 x13_1).f3.f2))) (fun _ hk => hk.2) (.bool ((rd_T35 l0 x13_1).f4))) (fun _ hk => hk.2) (.bool ((rd_T35 l0 x13_1).f5))) (fun _ hk => hk.2) (.int .i64 ((rd_T35 l0 x13_1).f6.f0))) (fun _ hk => hk.2) (.int .i64 ((rd_T35 l0 x13_1).f6.f1))) (fun _ hk => hk.2) (.int .i64 ((rd_T35 l0 x13_1).f6.f2))) (fun _ hk => hk.2) (.int .i64 ((rd_T35 l0 x13_1).f6.f3))) (fun _ hk => hk.2) (.int .i64 ((rd_T35 l0 x13_1).f7))) (fun _ hk => trivial)))⟩; have n2_ : Aside0 (w11.heap[gb153]? = some (.cells #[.int .i64 ((rd_T35 l0 x13_1).f0), .string ((rd_T35 l0 x13_1).f1), .string ((rd_T35 l0 x13_1).f2), .bool ((rd_T35 l0 x13_1).f3.f0), .string ((rd_T35 l0 x13_1).f3.f1), .string ((rd_T35 l0 x13_1).f3.f2), .bool ((rd_T35 l0 x13_1).f4), .bool ((rd_T35 l0 x13_1).f5), .int .i64 ((rd_T35 l0 x13_1).f6.f0), .int .i64 ((rd_T35 l0 x13_1).f6.f1), .int .i64 ((rd_T35 l0 x13_1).f6.f2), .int .i64 ((rd_T35 l0 x13_1).f6.f3), .int .i64 ((rd_T35 l0 x13_1).f7)] 35 (0, 0))) := ⟨(by rw [hw]; exact (putall13 (bkP BK153.out) (.int .i64 ((rd_T35 l0 x13_1).f0)) (.string ((rd_T35 l0 x13_1).f1)) (.string ((rd_T35 l0 x13_1).f2)) (.bool ((rd_T35 l0 x13_1).f3.f0)) (.string ((rd_T35 l0 x13_1).f3.f1)) (.string ((rd_T35 l0 x13_1).f3.f2)) (.bool ((rd_T35 l0 x13_1).f4)) (.bool ((rd_T35 l0 x13_1).f5)) (.int .i64 ((rd_T35 l0 x13_1).f6.f0)) (.int .i64 ((rd_T35 l0 x13_1).f6.f1)) (.int .i64 ((rd_T35 l0 x13_1).f6.f2)) (.int .i64 ((rd_T35 l0 x13_1).f6.f3)) (.int .i64 ((rd_T35 l0 x13_1).f7))))⟩; have n3_ : Aside0 (Below w.heap.size w w11) := ⟨(by rw [hw]; exact (belall13 (hbP0 HB.out) GE153.out (.int .i64 ((rd_T35 l0 x13_1).f0)) (.string ((rd_T35 l0 x13_1).f1)) (.string ((rd_T35 l0 x13_1).f2)) (.bool ((rd_T35 l0 x13_1).f3.f0)) (.string ((rd_T35 l0 x13_1).f3.f1)) (.string ((rd_T35 l0 x13_1).f3.f2)) (.bool ((rd_T35 l0 x13_1).f4)) (.bool ((rd_T35 l0 x13_1).f5)) (.int .i64 ((rd_T35 l0 x13_1).f6.f0)) (.int .i64 ((rd_T35 l0 x13_1).f6.f1)) (.int .i64 ((rd_T35 l0 x13_1).f6.f2)) (.int .i64 ((rd_T35 l0 x13_1).f6.f3)) (.int .i64 ((rd_T35 l0 x13_1).f7))))⟩; clear hw; clear HO_3; clear HO_4; clear BK153; clear HB; have HO_3 := n0_; have HO_4 := n1_; have BK153 := n2_; have HB := n3_; clear n0_ n1_ n2_ n3_; have hcz12_0 : w11.cell? ⟨gb153, 0, none⟩ = some (.int .i64 ((rd_T35 l0 x13_1).f0)) := (blk_cell BK153.out 0).trans rfl; have hcz12_1 : w11.cell? ⟨gb153, 1, none⟩ = some (.string ((rd_T35 l0 x13_1).f1)) := (blk_cell BK153.out 1).trans rfl; have hcz12_2 : w11.cell? ⟨gb153, 2, none⟩ = some (.string ((rd_T35 l0 x13_1).f2)) := (blk_cell BK153.out 2).trans rfl; have hcz12_3 : w11.cell? ⟨gb153, 3, none⟩ = some (.bool ((rd_T35 l0 x13_1).f3.f0)) := (blk_cell BK153.out 3).trans rfl; have hcz12_4 : w11.cell? ⟨gb153, 4, none⟩ = some (.string ((rd_T35 l0 x13_1).f3.f1)) := (blk_cell BK153.out 4).trans rfl; have hcz12_5 : w11.cell? ⟨gb153, 5, none⟩ = some (.string ((rd_T35 l0 x13_1).f3.f2)) := (blk_cell BK153.out 5).trans rfl; have hcz12_6 : w11.cell? ⟨gb153, 6, none⟩ = some (.bool ((rd_T35 l0 x13_1).f4)) := (blk_cell BK153.out 6).trans rfl; have hcz12_7 : w11.cell? ⟨gb153, 7, none⟩ = some (.bool ((rd_T35 l0 x13_1).f5)) := (blk_cell BK153.out 7).trans rfl; have hcz12_8 : w11.cell? ⟨gb153, 8, none⟩ = some (.int .i64 ((rd_T35 l0 x13_1).f6.f0)) := (blk_cell BK153.out 8).trans rfl; have hcz12_9 : w11.cell? ⟨gb153, 9, none⟩ = some (.int .i64 ((rd_T35 l0 x13_1).f6.f1)) := (blk_cell BK153.out 9).trans rfl; have hcz12_10 : w11.cell? ⟨gb153, 10, none⟩ = some (.int .i64 ((rd_T35 l0 x13_1).f6.f2)) := (blk_cell BK153.out 10).trans rfl; have hcz12_11 : w11.cell? ⟨gb153, 11, none⟩ = some (.int .i64 ((rd_T35 l0 x13_1).f6.f3)) := (blk_cell BK153.out 11).trans rfl; have hcz12_12 : w11.cell? ⟨gb153, 12, none⟩ = some (.int .i64 ((rd_T35 l0 x13_1).f7)) := (blk_cell BK153.out 12).trans rfl; have hfz12_0 := blk_frozen BK153.out 0; have hfz12_1 := blk_frozen BK153.out 1; have hfz12_2 := blk_frozen BK153.out 2; have hfz12_3 := blk_frozen BK153.out 3; have hfz12_4 := blk_frozen BK153.out 4; have hfz12_5 := blk_frozen BK153.out 5; have hfz12_6 := blk_frozen BK153.out 6; have hfz12_7 := blk_frozen BK153.out 7; have hfz12_8 := blk_frozen BK153.out 8; have hfz12_9 := blk_frozen BK153.out 9; have hfz12_10 := blk_frozen BK153.out 10; have hfz12_11 := blk_frozen BK153.out 11; have hfz12_12 := blk_frozen BK153.out 12) | (go_at_call 31; (with_reducible refine (cvalue_Blank.calls ((rd_T35 l0 x13_1).f0) ((rd_T35 l0 x13_1).f1) ((rd_T35 l0 x13_1).f2) ((rd_T35 l0 x13_1).f3.f0) ((rd_T35 l0 x13_1).f3.f1) ((rd_T35 l0 x13_1).f3.f2) ((rd_T35 l0 x13_1).f4) ((rd_T35 l0 x13_1).f5) ((rd_T35 l0 x13_1).f6.f0) ((rd_T35 l0 x13_1).f6.f1) ((rd_T35 l0 x13_1).f6.f2) ((rd_T35 l0 x13_1).f6.f3) ((rd_T35 l0 x13_1).f7) true _ A7.out).mono ?_); rintro e w13 ⟨rfl, hb⟩; have n0_ := Aside0.mk (Kd.R_below (rwP HO_3.out) hb); have n1_ := Aside0.mk (Kd.R_below (rwP HO_4.out) hb); have n2_ := Aside0.mk (blk_below (g := gb153) (o := .cells #[.int .i64 ((rd_T35 l0 x13_1).f0), .string ((rd_T35 l0 x13_1).f1), .string ((rd_T35 l0 x13_1).f2), .bool ((rd_T35 l0 x13_1).f3.f0), .string ((rd_T35 l0 x13_1).f3.f1), .string ((rd_T35 l0 x13_1).f3.f2), .bool ((rd_T35 l0 x13_1).f4), .bool ((rd_T35 l0 x13_1).f5), .int .i64 ((rd_T35 l0 x13_1).f6.f0), .int .i64 ((rd_T35 l0 x13_1).f6.f1), .int .i64 ((rd_T35 l0 x13_1).f6.f2), .int .i64 ((rd_T35 l0 x13_1).f6.f3), .int .i64 ((rd_T35 l0 x13_1).f7)] 35 (0, 0)) (bkP BK153.out) hb); have n3_ := Aside0.mk (below_step (hbP1 HB.out GE153.out) hb); clear HO_3; clear HO_4; clear BK153; clear HB; have HO_3 := n0_; have HO_4 := n1_; have BK153 := n2_; have HB := n3_; clear n0_ n1_ n2_ n3_; (try clear hb); (try clear hb2); (try clear hk); (try clear hi)))
       go_roundg k1
       case measure => have := HK1.out; omega
       case rel => exact ⟨(x4_1), (x5_1), (x6_1), (wrap64 (x13_1 + 1)), vqP, vqP, vqP, H', ⟨by have := HK1.out; omega⟩, ⟨rwP HO_3.out⟩, ⟨rwP HO_4.out⟩, ⟨hbP1 HB.out GE153.out⟩⟩
      ·replace c8 := Bool.eq_false_iff.mpr c8
       subst c8
       have H1 : ((cvalue_part.f ((rd_T35 l0 x13_1).f0) ((rd_T35 l0 x13_1).f1) ((rd_T35 l0 x13_1).f2) ((rd_T35 l0 x13_1).f3.f0) ((rd_T35 l0 x13_1).f3.f1) ((rd_T35 l0 x13_1).f3.f2) ((rd_T35 l0 x13_1).f4) ((rd_T35 l0 x13_1).f5) ((rd_T35 l0 x13_1).f6.f0) ((rd_T35 l0 x13_1).f6.f1) ((rd_T35 l0 x13_1).f6.f2) ((rd_T35 l0 x13_1).f6.f3) ((rd_T35 l0 x13_1).f7)).bind fun t155 => (if t155 = true then (if x13_1 < (t149.length : Int) then (cvalue_Colons.j1 k1 l0 t149 x4_1 x5_1 x6_1 x13_1 l0 (l0.length : Int) x13_1 ((rd_T46 t149 x13_1).f1) ((rd_T35 l0 x13_1).f0) ((rd_T35 l0 x13_1).f1) ((rd_T35 l0 x13_1).f2) ((rd_T35 l0 x13_1).f3.f0) ((rd_T35 l0 x13_1).f3.f1) ((rd_T35 l0 x13_1).f3.f2) ((rd_T35 l0 x13_1).f4) ((rd_T35 l0 x13_1).f5) ((rd_T35 l0 x13_1).f6.f0) ((rd_T35 l0 x13_1).f6.f1) ((rd_T35 l0 x13_1).f6.f2) ((rd_T35 l0 x13_1).f6.f3) ((rd_T35 l0 x13_1).f7)) else (none)) else (cvalue_Colons.j1 k1 l0 t149 x4_1 x5_1 x6_1 x13_1 l0 (l0.length : Int) x13_1 false ((rd_T35 l0 x13_1).f0) ((rd_T35 l0 x13_1).f1) ((rd_T35 l0 x13_1).f2) ((rd_T35 l0 x13_1).f3.f0) ((rd_T35 l0 x13_1).f3.f1) ((rd_T35 l0 x13_1).f3.f2) ((rd_T35 l0 x13_1).f4) ((rd_T35 l0 x13_1).f5) ((rd_T35 l0 x13_1).f6.f0) ((rd_T35 l0 x13_1).f6.f1) ((rd_T35 l0 x13_1).f6.f2) ((rd_T35 l0 x13_1).f6.f3) ((rd_T35 l0 x13_1).f7)))) = some r := by rw [if_neg (show ¬ (false = true) by decide)] at H; exact H
       clear H
       have H := H1
       clear H1
       have HC14 := Aside0.mk H
       clear H
       have p152 : 0 ≤ (x13_1 : Int) := of_decide_eq_true (by first | (with_reducible assumption) | assumption)
       have q152 : x13_1 < (l0.length : Int) := of_decide_eq_true (by first | (with_reducible assumption) | assumption)
       obtain ⟨ad152, e152, hx152_0, hx152_1, hx152_2, hx152_3, hx152_4, hx152_5, hx152_6, hx152_7, hx152_8, hx152_9, hx152_10, hx152_11, hx152_12⟩ := at_T35 HR0.out x13_1 p152 q152
       cases e152
       replace hx152_0 := clB HB.out hx152_0
       replace hx152_1 := clB HB.out hx152_1
       replace hx152_2 := clB HB.out hx152_2
       replace hx152_3 := clB HB.out hx152_3
       replace hx152_4 := clB HB.out hx152_4
       replace hx152_5 := clB HB.out hx152_5
       replace hx152_6 := clB HB.out hx152_6
       replace hx152_7 := clB HB.out hx152_7
       replace hx152_8 := clB HB.out hx152_8
       replace hx152_9 := clB HB.out hx152_9
       replace hx152_10 := clB HB.out hx152_10
       replace hx152_11 := clB HB.out hx152_11
       replace hx152_12 := clB HB.out hx152_12
       replace p152 := eq_true p152
       replace q152 := eq_true q152
       go_upto_region 8 with (first | ((with_reducible refine gate_dst (N := 8) rfl ?_); refine box_event ?hg (N := 8) ?hd (cs := #[.int .i64 0, .string (⟨#[]⟩ : ByteArray), .string (⟨#[]⟩ : ByteArray), .bool false, .string (⟨#[]⟩ : ByteArray), .string (⟨#[]⟩ : ByteArray), .bool false, .bool false, .int .i64 0, .int .i64 0, .int .i64 0, .int .i64 0, .int .i64 0]) (t := 35) ?hr ?_; (case hd => rfl); (case hg => rfl); (case hr => first | (go_simp; done) | (go_simp; rfl)); intro gb153 hg w15 hbox hb; have n0_ := Aside0.mk (Kd.R_below (rwP HO_3.out) hb); have n1_ := Aside0.mk (Kd.R_below (rwP HO_4.out) hb); have n2_ := Aside0.mk (below_step (hbP0 HB.out) hb); have n3_ := Aside0.mk (hbox); have n4_ := Aside0.mk ((by rw [hg]; exact (below_size (hbP0 HB.out)) : w.heap.size ≤ gb153)); have n5_ := Aside0.mk ((by rw [hg]; exact (below_size (hbP0 HB.out)) : w.heap.size ≤ gb153)); clear HO_3; clear HO_4; clear HB; have HO_3 := n0_; have HO_4 := n1_; have HB := n2_; have BK153 := n3_; have GW153 := n4_; have GE153 := n5_; clear n0_ n1_ n2_ n3_ n4_ n5_; clear hb hbox hg; have hcz16_0 : w15.cell? ⟨gb153, 0, none⟩ = some (.int .i64 0) := (blk_cell BK153.out 0).trans rfl; have hcz16_1 : w15.cell? ⟨gb153, 1, none⟩ = some (.string (⟨#[]⟩ : ByteArray)) := (blk_cell BK153.out 1).trans rfl; have hcz16_2 : w15.cell? ⟨gb153, 2, none⟩ = some (.string (⟨#[]⟩ : ByteArray)) := (blk_cell BK153.out 2).trans rfl; have hcz16_3 : w15.cell? ⟨gb153, 3, none⟩ = some (.bool false) := (blk_cell BK153.out 3).trans rfl; have hcz16_4 : w15.cell? ⟨gb153, 4, none⟩ = some (.string (⟨#[]⟩ : ByteArray)) := (blk_cell BK153.out 4).trans rfl; have hcz16_5 : w15.cell? ⟨gb153, 5, none⟩ = some (.string (⟨#[]⟩ : ByteArray)) := (blk_cell BK153.out 5).trans rfl; have hcz16_6 : w15.cell? ⟨gb153, 6, none⟩ = some (.bool false) := (blk_cell BK153.out 6).trans rfl; have hcz16_7 : w15.cell? ⟨gb153, 7, none⟩ = some (.bool false) := (blk_cell BK153.out 7).trans rfl; have hcz16_8 : w15.cell? ⟨gb153, 8, none⟩ = some (.int .i64 0) := (blk_cell BK153.out 8).trans rfl; have hcz16_9 : w15.cell? ⟨gb153, 9, none⟩ = some (.int .i64 0) := (blk_cell BK153.out 9).trans rfl; have hcz16_10 : w15.cell? ⟨gb153, 10, none⟩ = some (.int .i64 0) := (blk_cell BK153.out 10).trans rfl; have hcz16_11 : w15.cell? ⟨gb153, 11, none⟩ = some (.int .i64 0) := (blk_cell BK153.out 11).trans rfl; have hcz16_12 : w15.cell? ⟨gb153, 12, none⟩ = some (.int .i64 0) := (blk_cell BK153.out 12).trans rfl; have hfz16_0 := blk_frozen BK153.out 0; have hfz16_1 := blk_frozen BK153.out 1; have hfz16_2 := blk_frozen BK153.out 2; have hfz16_3 := blk_frozen BK153.out 3; have hfz16_4 := blk_frozen BK153.out 4; have hfz16_5 := blk_frozen BK153.out 5; have hfz16_6 := blk_frozen BK153.out 6; have hfz16_7 := blk_frozen BK153.out 7; have hfz16_8 := blk_frozen BK153.out 8; have hfz16_9 := blk_frozen BK153.out 9; have hfz16_10 := blk_frozen BK153.out 10; have hfz16_11 := blk_frozen BK153.out 11; have hfz16_12 := blk_frozen BK153.out 12) | ((with_reducible refine gate_store (t := 35) (p := 8) rfl ?_); (try (rw [drewN_self w15]; generalize hq_ : World.drewN w15 _ = w15; have n0_ := Aside0.mk (Kd.R_at hq_ HO_3.out); have n1_ := Aside0.mk (Kd.R_at hq_ HO_4.out); have n2_ := Aside0.mk (blk_at hq_ BK153.out); have n3_ := Aside0.mk (below_at hq_ HB.out); clear hq_ HO_3 HO_4 BK153 HB; have HO_3 := n0_; have HO_4 := n1_; have BK153 := n2_; have HB := n3_; clear n0_ n1_ n2_ n3_)); refine store_all13 (t := 35) (p := 8) (v := ?vo_w17) gb153 (.int .i64 ((rd_T35 l0 x13_1).f0)) (.string ((rd_T35 l0 x13_1).f1)) (.string ((rd_T35 l0 x13_1).f2)) (.bool ((rd_T35 l0 x13_1).f3.f0)) (.string ((rd_T35 l0 x13_1).f3.f1)) (.string ((rd_T35 l0 x13_1).f3.f2)) (.bool ((rd_T35 l0 x13_1).f4)) (.bool ((rd_T35 l0 x13_1).f5)) (.int .i64 ((rd_T35 l0 x13_1).f6.f0)) (.int .i64 ((rd_T35 l0 x13_1).f6.f1)) (.int .i64 ((rd_T35 l0 x13_1).f6.f2)) (.int .i64 ((rd_T35 l0 x13_1).f6.f3)) (.int .i64 ((rd_T35 l0 x13_1).f7)) ?hg ?ho ?hn (bkP BK153.out) ?hx ?hy ?hi ?h1 ?_; (case ho => rfl); (case hg => rfl); (case hn => rfl); (case hx => first | rfl | (go_simp; done) | (go_simp; rfl)); (case hy => first | with_reducible rfl | (go_simp; done) | (go_simp; rfl)); (case hi => kernel_rfl); (case h1 => rfl); intro w17 hw; have n0_ : Aside0 (Kd.R k46 46 w17 w.heap.size (fun _ => True) v150 t149) := ⟨(by rw [hw]; exact (by (with_reducible repeat (first | apply Kd.R_alloc | apply Kd.R_drewN | apply Kd.R_drew)); exact Kd.R_mono (Kd.R_far (p := ⟨gb153, 12, none⟩) (Kd.R_far (p := ⟨gb153, 11, none⟩) (Kd.R_far (p := ⟨gb153, 10, none⟩) (Kd.R_far (p := ⟨gb153, 9, none⟩) (Kd.R_far (p := ⟨gb153, 8, none⟩) (Kd.R_far (p := ⟨gb153, 7, none⟩) (Kd.R_far (p := ⟨gb153, 6, none⟩) (Kd.R_far (p := ⟨gb153, 5, none⟩) (Kd.R_far (p := ⟨gb153, 4, none⟩) (Kd.R_far (p := ⟨gb153, 3, none⟩) (Kd.R_far (p := ⟨gb153, 2, none⟩) (Kd.R_far (p := ⟨gb153, 1, none⟩) (Kd.R_far (p := ⟨gb153, 0, none⟩) (Kd.R_types HO_3.out BK153.out (by decide)) (fun _ hk => hk.2) (.int .i64 ((rd_T35 l0 x13_1).f0))) (fun _ hk => hk.2) (.string ((rd_T35 l0 x13_1).f1))) (fun _ hk => hk.2) (.string ((rd_T35 l0 x13_1).f2))) (fun _ hk => hk.2) (.bool ((rd_T35 l0 x13_1).f3.f0))) (fun _ hk => hk.2) (.string ((rd_T35 l0 x13_1).f3.f1))) (fun _ hk => hk.2) (.string ((rd_T35 l0 x13_1).f3.f2))) (fun _ hk => hk.2) (.bool ((rd_T35 l0 x13_1).f4))) (fun _ hk => hk.2) (.bool ((rd_T35 l0 x13_1).f5))) (fun _ hk => hk.2) (.int .i64 ((rd_T35 l0 x13_1).f6.f0))) (fun _ hk => hk.2) (.int .i64 ((rd_T35 l0 x13_1).f6.f1))) (fun _ hk => hk.2) (.int .i64 ((rd_T35 l0 x13_1).f6.f2))) (fun _ hk => hk.2) (.int .i64 ((rd_T35 l0 x13_1).f6.f3))) (fun _ hk => hk.2) (.int .i64 ((rd_T35 l0 x13_1).f7))) (fun _ hk => trivial)))⟩; have n1_ : Aside0 (Kd.R (Kd.int .i64) 3 w17 w.heap.size (fun _ => True) u4 x4_1) := ⟨(by rw [hw]; exact (by (with_reducible repeat (first | apply Kd.R_alloc | apply Kd.R_drewN | apply Kd.R_drew)); exact Kd.R_mono (Kd.R_far (p := ⟨gb153, 12, none⟩) (Kd.R_far (p := ⟨gb153, 11, none⟩) (Kd.R_far (p := ⟨gb153, 10, none⟩) (Kd.R_far (p := ⟨gb153, 9, none⟩) (Kd.R_far (p := ⟨gb153, 8, none⟩) (Kd.R_far (p := ⟨gb153, 7, none⟩) (Kd.R_far (p := ⟨gb153, 6, none⟩) (Kd.R_far (p := ⟨gb153, 5, none⟩) (Kd.R_far (p := ⟨gb153, 4, none⟩) (Kd.R_far (p := ⟨gb153, 3, none⟩) (Kd.R_far (p := ⟨gb153, 2, none⟩) (Kd.R_far (p := ⟨gb153, 1, none⟩) (Kd.R_far (p := ⟨gb153, 0, none⟩) (Kd.R_types HO_4.out BK153.out (by decide)) (fun _ hk => hk.2) (.int .i64 ((rd_T35 l0 x13_1).f0))) (fun _ hk => hk.2) (.string ((rd_T35 l0 x13_1).f1))) (fun _ hk => hk.2) (.string ((rd_T35 l0 x13_1).f2))) (fun _ hk => hk.2) (.bool ((rd_T35 l0 x13_1).f3.f0))) (fun _ hk => hk.2) (.string ((rd_T35 l0 x13_1).f3.f1))) (fun _ hk => hk.2) (.string ((rd_T35 l0 x13_1).f3.f2))) (fun _ hk => hk.2) (.bool ((rd_T35 l0 x13_1).f4))) (fun _ hk => hk.2) (.bool ((rd_T35 l0 x13_1).f5))) (fun _ hk => hk.2) (.int .i64 ((rd_T35 l0 x13_1).f6.f0))) (fun _ hk => hk.2) (.int .i64 ((rd_T35 l0 x13_1).f6.f1))) (fun _ hk => hk.2) (.int .i64 ((rd_T35 l0 x13_1).f6.f2))) (fun _ hk => hk.2) (.int .i64 ((rd_T35 l0 x13_1).f6.f3))) (fun _ hk => hk.2) (.int .i64 ((rd_T35 l0 x13_1).f7))) (fun _ hk => trivial)))⟩; have n2_ : Aside0 (w17.heap[gb153]? = some (.cells #[.int .i64 ((rd_T35 l0 x13_1).f0), .string ((rd_T35 l0 x13_1).f1), .string ((rd_T35 l0 x13_1).f2), .bool ((rd_T35 l0 x13_1).f3.f0), .string ((rd_T35 l0 x13_1).f3.f1), .string ((rd_T35 l0 x13_1).f3.f2), .bool ((rd_T35 l0 x13_1).f4), .bool ((rd_T35 l0 x13_1).f5), .int .i64 ((rd_T35 l0 x13_1).f6.f0), .int .i64 ((rd_T35 l0 x13_1).f6.f1), .int .i64 ((rd_T35 l0 x13_1).f6.f2), .int .i64 ((rd_T35 l0 x13_1).f6.f3), .int .i64 ((rd_T35 l0 x13_1).f7)] 35 (0, 0))) := ⟨(by rw [hw]; exact (putall13 (bkP BK153.out) (.int .i64 ((rd_T35 l0 x13_1).f0)) (.string ((rd_T35 l0 x13_1).f1)) (.string ((rd_T35 l0 x13_1).f2)) (.bool ((rd_T35 l0 x13_1).f3.f0)) (.string ((rd_T35 l0 x13_1).f3.f1)) (.string ((rd_T35 l0 x13_1).f3.f2)) (.bool ((rd_T35 l0 x13_1).f4)) (.bool ((rd_T35 l0 x13_1).f5)) (.int .i64 ((rd_T35 l0 x13_1).f6.f0)) (.int .i64 ((rd_T35 l0 x13_1).f6.f1)) (.int .i64 ((rd_T35 l0 x13_1).f6.f2)) (.int .i64 ((rd_T35 l0 x13_1).f6.f3)) (.int .i64 ((rd_T35 l0 x13_1).f7))))⟩; have n3_ : Aside0 (Below w.heap.size w w17) := ⟨(by rw [hw]; exact (belall13 (hbP0 HB.out) GE153.out (.int .i64 ((rd_T35 l0 x13_1).f0)) (.string ((rd_T35 l0 x13_1).f1)) (.string ((rd_T35 l0 x13_1).f2)) (.bool ((rd_T35 l0 x13_1).f3.f0)) (.string ((rd_T35 l0 x13_1).f3.f1)) (.string ((rd_T35 l0 x13_1).f3.f2)) (.bool ((rd_T35 l0 x13_1).f4)) (.bool ((rd_T35 l0 x13_1).f5)) (.int .i64 ((rd_T35 l0 x13_1).f6.f0)) (.int .i64 ((rd_T35 l0 x13_1).f6.f1)) (.int .i64 ((rd_T35 l0 x13_1).f6.f2)) (.int .i64 ((rd_T35 l0 x13_1).f6.f3)) (.int .i64 ((rd_T35 l0 x13_1).f7))))⟩; clear hw; clear HO_3; clear HO_4; clear BK153; clear HB; have HO_3 := n0_; have HO_4 := n1_; have BK153 := n2_; have HB := n3_; clear n0_ n1_ n2_ n3_; have hcz18_0 : w17.cell? ⟨gb153, 0, none⟩ = some (.int .i64 ((rd_T35 l0 x13_1).f0)) := (blk_cell BK153.out 0).trans rfl; have hcz18_1 : w17.cell? ⟨gb153, 1, none⟩ = some (.string ((rd_T35 l0 x13_1).f1)) := (blk_cell BK153.out 1).trans rfl; have hcz18_2 : w17.cell? ⟨gb153, 2, none⟩ = some (.string ((rd_T35 l0 x13_1).f2)) := (blk_cell BK153.out 2).trans rfl; have hcz18_3 : w17.cell? ⟨gb153, 3, none⟩ = some (.bool ((rd_T35 l0 x13_1).f3.f0)) := (blk_cell BK153.out 3).trans rfl; have hcz18_4 : w17.cell? ⟨gb153, 4, none⟩ = some (.string ((rd_T35 l0 x13_1).f3.f1)) := (blk_cell BK153.out 4).trans rfl; have hcz18_5 : w17.cell? ⟨gb153, 5, none⟩ = some (.string ((rd_T35 l0 x13_1).f3.f2)) := (blk_cell BK153.out 5).trans rfl; have hcz18_6 : w17.cell? ⟨gb153, 6, none⟩ = some (.bool ((rd_T35 l0 x13_1).f4)) := (blk_cell BK153.out 6).trans rfl; have hcz18_7 : w17.cell? ⟨gb153, 7, none⟩ = some (.bool ((rd_T35 l0 x13_1).f5)) := (blk_cell BK153.out 7).trans rfl; have hcz18_8 : w17.cell? ⟨gb153, 8, none⟩ = some (.int .i64 ((rd_T35 l0 x13_1).f6.f0)) := (blk_cell BK153.out 8).trans rfl; have hcz18_9 : w17.cell? ⟨gb153, 9, none⟩ = some (.int .i64 ((rd_T35 l0 x13_1).f6.f1)) := (blk_cell BK153.out 9).trans rfl; have hcz18_10 : w17.cell? ⟨gb153, 10, none⟩ = some (.int .i64 ((rd_T35 l0 x13_1).f6.f2)) := (blk_cell BK153.out 10).trans rfl; have hcz18_11 : w17.cell? ⟨gb153, 11, none⟩ = some (.int .i64 ((rd_T35 l0 x13_1).f6.f3)) := (blk_cell BK153.out 11).trans rfl; have hcz18_12 : w17.cell? ⟨gb153, 12, none⟩ = some (.int .i64 ((rd_T35 l0 x13_1).f7)) := (blk_cell BK153.out 12).trans rfl; have hfz18_0 := blk_frozen BK153.out 0; have hfz18_1 := blk_frozen BK153.out 1; have hfz18_2 := blk_frozen BK153.out 2; have hfz18_3 := blk_frozen BK153.out 3; have hfz18_4 := blk_frozen BK153.out 4; have hfz18_5 := blk_frozen BK153.out 5; have hfz18_6 := blk_frozen BK153.out 6; have hfz18_7 := blk_frozen BK153.out 7; have hfz18_8 := blk_frozen BK153.out 8; have hfz18_9 := blk_frozen BK153.out 9; have hfz18_10 := blk_frozen BK153.out 10; have hfz18_11 := blk_frozen BK153.out 11; have hfz18_12 := blk_frozen BK153.out 12) | (go_at_call 31; (with_reducible refine (cvalue_Blank.calls ((rd_T35 l0 x13_1).f0) ((rd_T35 l0 x13_1).f1) ((rd_T35 l0 x13_1).f2) ((rd_T35 l0 x13_1).f3.f0) ((rd_T35 l0 x13_1).f3.f1) ((rd_T35 l0 x13_1).f3.f2) ((rd_T35 l0 x13_1).f4) ((rd_T35 l0 x13_1).f5) ((rd_T35 l0 x13_1).f6.f0) ((rd_T35 l0 x13_1).f6.f1) ((rd_T35 l0 x13_1).f6.f2) ((rd_T35 l0 x13_1).f6.f3) ((rd_T35 l0 x13_1).f7) false _ A7.out).mono ?_); rintro e w19 ⟨rfl, hb⟩; have n0_ := Aside0.mk (Kd.R_below (rwP HO_3.out) hb); have n1_ := Aside0.mk (Kd.R_below (rwP HO_4.out) hb); have n2_ := Aside0.mk (blk_below (g := gb153) (o := .cells #[.int .i64 ((rd_T35 l0 x13_1).f0), .string ((rd_T35 l0 x13_1).f1), .string ((rd_T35 l0 x13_1).f2), .bool ((rd_T35 l0 x13_1).f3.f0), .string ((rd_T35 l0 x13_1).f3.f1), .string ((rd_T35 l0 x13_1).f3.f2), .bool ((rd_T35 l0 x13_1).f4), .bool ((rd_T35 l0 x13_1).f5), .int .i64 ((rd_T35 l0 x13_1).f6.f0), .int .i64 ((rd_T35 l0 x13_1).f6.f1), .int .i64 ((rd_T35 l0 x13_1).f6.f2), .int .i64 ((rd_T35 l0 x13_1).f6.f3), .int .i64 ((rd_T35 l0 x13_1).f7)] 35 (0, 0)) (bkP BK153.out) hb); have n3_ := Aside0.mk (below_step (hbP1 HB.out GE153.out) hb); clear HO_3; clear HO_4; clear BK153; clear HB; have HO_3 := n0_; have HO_4 := n1_; have BK153 := n2_; have HB := n3_; clear n0_ n1_ n2_ n3_; (try clear hb); (try clear hb2); (try clear hk); (try clear hi)))
       (try simp only [Act.put, List.setIfInBounds_toArray, List.set_cons_zero, List.set_cons_succ])
       go_cut [21] (fun v21 wc => ∃ (kq : Nat) (x21_13 : Bool), v21 = .bool x21_13 ∧ Aside0 (cvalue_Colons.j1 kq l0 t149 x4_1 x5_1 x6_1 x13_1 l0 (l0.length : Int) x13_1 x21_13 ((rd_T35 l0 x13_1).f0) ((rd_T35 l0 x13_1).f1) ((rd_T35 l0 x13_1).f2) ((rd_T35 l0 x13_1).f3.f0) ((rd_T35 l0 x13_1).f3.f1) ((rd_T35 l0 x13_1).f3.f2) ((rd_T35 l0 x13_1).f4) ((rd_T35 l0 x13_1).f5) ((rd_T35 l0 x13_1).f6.f0) ((rd_T35 l0 x13_1).f6.f1) ((rd_T35 l0 x13_1).f6.f2) ((rd_T35 l0 x13_1).f6.f3) ((rd_T35 l0 x13_1).f7) = some r) ∧ Aside0 (kq ≤ k1) ∧ Aside0 (Kd.R k46 46 wc w.heap.size (fun _ => True) v150 t149) ∧ Aside0 (Kd.R (Kd.int .i64) 3 wc w.heap.size (fun _ => True) u4 x4_1) ∧ Aside0 (wc.heap[gb153]? = some (.cells #[.int .i64 ((rd_T35 l0 x13_1).f0), .string ((rd_T35 l0 x13_1).f1), .string ((rd_T35 l0 x13_1).f2), .bool ((rd_T35 l0 x13_1).f3.f0), .string ((rd_T35 l0 x13_1).f3.f1), .string ((rd_T35 l0 x13_1).f3.f2), .bool ((rd_T35 l0 x13_1).f4), .bool ((rd_T35 l0 x13_1).f5), .int .i64 ((rd_T35 l0 x13_1).f6.f0), .int .i64 ((rd_T35 l0 x13_1).f6.f1), .int .i64 ((rd_T35 l0 x13_1).f6.f2), .int .i64 ((rd_T35 l0 x13_1).f6.f3), .int .i64 ((rd_T35 l0 x13_1).f7)] 35 (0, 0))) ∧ Aside0 (Below w.heap.size w wc))
       case first =>
        have H := HC14.out
        clear HC14
        replace H := Option.bind_eq_some_iff.mp H
        obtain ⟨t155, A200, H⟩ := H
        replace H : (if t155 = true then (if x13_1 < (t149.length : Int) then (cvalue_Colons.j1 k1 l0 t149 x4_1 x5_1 x6_1 x13_1 l0 (l0.length : Int) x13_1 ((rd_T46 t149 x13_1).f1) ((rd_T35 l0 x13_1).f0) ((rd_T35 l0 x13_1).f1) ((rd_T35 l0 x13_1).f2) ((rd_T35 l0 x13_1).f3.f0) ((rd_T35 l0 x13_1).f3.f1) ((rd_T35 l0 x13_1).f3.f2) ((rd_T35 l0 x13_1).f4) ((rd_T35 l0 x13_1).f5) ((rd_T35 l0 x13_1).f6.f0) ((rd_T35 l0 x13_1).f6.f1) ((rd_T35 l0 x13_1).f6.f2) ((rd_T35 l0 x13_1).f6.f3) ((rd_T35 l0 x13_1).f7)) else (none)) else (cvalue_Colons.j1 k1 l0 t149 x4_1 x5_1 x6_1 x13_1 l0 (l0.length : Int) x13_1 false ((rd_T35 l0 x13_1).f0) ((rd_T35 l0 x13_1).f1) ((rd_T35 l0 x13_1).f2) ((rd_T35 l0 x13_1).f3.f0) ((rd_T35 l0 x13_1).f3.f1) ((rd_T35 l0 x13_1).f3.f2) ((rd_T35 l0 x13_1).f4) ((rd_T35 l0 x13_1).f5) ((rd_T35 l0 x13_1).f6.f0) ((rd_T35 l0 x13_1).f6.f1) ((rd_T35 l0 x13_1).f6.f2) ((rd_T35 l0 x13_1).f6.f3) ((rd_T35 l0 x13_1).f7))) = some r := H
        have A20 := Aside0.mk A200
        clear A200
        by_cases c21 : t155 = true
        ·subst c21
         have H1 : (if x13_1 < (t149.length : Int) then (cvalue_Colons.j1 k1 l0 t149 x4_1 x5_1 x6_1 x13_1 l0 (l0.length : Int) x13_1 ((rd_T46 t149 x13_1).f1) ((rd_T35 l0 x13_1).f0) ((rd_T35 l0 x13_1).f1) ((rd_T35 l0 x13_1).f2) ((rd_T35 l0 x13_1).f3.f0) ((rd_T35 l0 x13_1).f3.f1) ((rd_T35 l0 x13_1).f3.f2) ((rd_T35 l0 x13_1).f4) ((rd_T35 l0 x13_1).f5) ((rd_T35 l0 x13_1).f6.f0) ((rd_T35 l0 x13_1).f6.f1) ((rd_T35 l0 x13_1).f6.f2) ((rd_T35 l0 x13_1).f6.f3) ((rd_T35 l0 x13_1).f7)) else (none)) = some r := by rw [if_pos rfl] at H; exact H
         clear H
         have H := H1
         clear H1
         by_cases c22 : x13_1 < (t149.length : Int)
         ·rw [if_pos c22] at H
          have c22b0 : decide (x13_1 < (t149.length : Int)) = true := decide_eq_true c22
          clear c22
          (first | rw [c22b0] | (simp only [i64_w, i32_w]; rw [c22b0]) | skip)
          have H' := Aside0.mk H
          clear H
          have hcz23_0 : w19.cell? ⟨gb153, 0, none⟩ = some (.int .i64 ((rd_T35 l0 x13_1).f0)) := (blk_cell BK153.out 0).trans rfl
          have hcz23_1 : w19.cell? ⟨gb153, 1, none⟩ = some (.string ((rd_T35 l0 x13_1).f1)) := (blk_cell BK153.out 1).trans rfl
          have hcz23_2 : w19.cell? ⟨gb153, 2, none⟩ = some (.string ((rd_T35 l0 x13_1).f2)) := (blk_cell BK153.out 2).trans rfl
          have hcz23_3 : w19.cell? ⟨gb153, 3, none⟩ = some (.bool ((rd_T35 l0 x13_1).f3.f0)) := (blk_cell BK153.out 3).trans rfl
          have hcz23_4 : w19.cell? ⟨gb153, 4, none⟩ = some (.string ((rd_T35 l0 x13_1).f3.f1)) := (blk_cell BK153.out 4).trans rfl
          have hcz23_5 : w19.cell? ⟨gb153, 5, none⟩ = some (.string ((rd_T35 l0 x13_1).f3.f2)) := (blk_cell BK153.out 5).trans rfl
          have hcz23_6 : w19.cell? ⟨gb153, 6, none⟩ = some (.bool ((rd_T35 l0 x13_1).f4)) := (blk_cell BK153.out 6).trans rfl
          have hcz23_7 : w19.cell? ⟨gb153, 7, none⟩ = some (.bool ((rd_T35 l0 x13_1).f5)) := (blk_cell BK153.out 7).trans rfl
          have hcz23_8 : w19.cell? ⟨gb153, 8, none⟩ = some (.int .i64 ((rd_T35 l0 x13_1).f6.f0)) := (blk_cell BK153.out 8).trans rfl
          have hcz23_9 : w19.cell? ⟨gb153, 9, none⟩ = some (.int .i64 ((rd_T35 l0 x13_1).f6.f1)) := (blk_cell BK153.out 9).trans rfl
          have hcz23_10 : w19.cell? ⟨gb153, 10, none⟩ = some (.int .i64 ((rd_T35 l0 x13_1).f6.f2)) := (blk_cell BK153.out 10).trans rfl
          have hcz23_11 : w19.cell? ⟨gb153, 11, none⟩ = some (.int .i64 ((rd_T35 l0 x13_1).f6.f3)) := (blk_cell BK153.out 11).trans rfl
          have hcz23_12 : w19.cell? ⟨gb153, 12, none⟩ = some (.int .i64 ((rd_T35 l0 x13_1).f7)) := (blk_cell BK153.out 12).trans rfl
          have hfz23_0 := blk_frozen BK153.out 0
          have hfz23_1 := blk_frozen BK153.out 1
          have hfz23_2 := blk_frozen BK153.out 2
          have hfz23_3 := blk_frozen BK153.out 3
          have hfz23_4 := blk_frozen BK153.out 4
          have hfz23_5 := blk_frozen BK153.out 5
          have hfz23_6 := blk_frozen BK153.out 6
          have hfz23_7 := blk_frozen BK153.out 7
          have hfz23_8 := blk_frozen BK153.out 8
          have hfz23_9 := blk_frozen BK153.out 9
          have hfz23_10 := blk_frozen BK153.out 10
          have hfz23_11 := blk_frozen BK153.out 11
          have hfz23_12 := blk_frozen BK153.out 12
          go_wp2_with (first | (go_at_call 32; (with_reducible refine (cvalue_part.calls ((rd_T35 l0 x13_1).f0) ((rd_T35 l0 x13_1).f1) ((rd_T35 l0 x13_1).f2) ((rd_T35 l0 x13_1).f3.f0) ((rd_T35 l0 x13_1).f3.f1) ((rd_T35 l0 x13_1).f3.f2) ((rd_T35 l0 x13_1).f4) ((rd_T35 l0 x13_1).f5) ((rd_T35 l0 x13_1).f6.f0) ((rd_T35 l0 x13_1).f6.f1) ((rd_T35 l0 x13_1).f6.f2) ((rd_T35 l0 x13_1).f6.f3) ((rd_T35 l0 x13_1).f7) true _ A20.out).mono ?_); rintro e w24 ⟨rfl, hb⟩; have n0_ := Aside0.mk (Kd.R_below (rwP HO_3.out) hb); have n1_ := Aside0.mk (Kd.R_below (rwP HO_4.out) hb); have n2_ := Aside0.mk (blk_below (g := gb153) (o := .cells #[.int .i64 ((rd_T35 l0 x13_1).f0), .string ((rd_T35 l0 x13_1).f1), .string ((rd_T35 l0 x13_1).f2), .bool ((rd_T35 l0 x13_1).f3.f0), .string ((rd_T35 l0 x13_1).f3.f1), .string ((rd_T35 l0 x13_1).f3.f2), .bool ((rd_T35 l0 x13_1).f4), .bool ((rd_T35 l0 x13_1).f5), .int .i64 ((rd_T35 l0 x13_1).f6.f0), .int .i64 ((rd_T35 l0 x13_1).f6.f1), .int .i64 ((rd_T35 l0 x13_1).f6.f2), .int .i64 ((rd_T35 l0 x13_1).f6.f3), .int .i64 ((rd_T35 l0 x13_1).f7)] 35 (0, 0)) (bkP BK153.out) hb); have n3_ := Aside0.mk (below_step (hbP1 HB.out GE153.out) hb); clear HO_3; clear HO_4; clear BK153; clear HB; have HO_3 := n0_; have HO_4 := n1_; have BK153 := n2_; have HB := n3_; clear n0_ n1_ n2_ n3_; (try clear hb); (try clear hb2); (try clear hk); (try clear hi); obtain ⟨Ao25, co25, eo25⟩ := Kd.R_slice HO_3.out; subst eo25; have p156 : 0 ≤ (x13_1 : Int) := of_decide_eq_true (by first | (with_reducible assumption) | assumption); have q156 : x13_1 < (t149.length : Int) := of_decide_eq_true (by first | (with_reducible assumption) | assumption); obtain ⟨ad156, e156, hx156_0, hx156_1, hx156_2⟩ := at_T46 (Kd.R_reads' HO_3.out).2.2 x13_1 p156 q156; cases e156; replace p156 := eq_true p156; replace q156 := eq_true q156))
          go_meet
          case rel => exact ⟨_, ((rd_T46 t149 x13_1).f1), vqP, H', ⟨by have := HK1.out; first | omega | exact Nat.le_refl _⟩, ⟨rwP HO_3.out⟩, ⟨rwP HO_4.out⟩, ⟨bkP BK153.out⟩, ⟨hbP1 HB.out GE153.out⟩⟩
         ·rw [if_neg c22] at H
          exact absurd H (by simp)
        ·replace c21 := Bool.eq_false_iff.mpr c21
         subst c21
         have H1 : (cvalue_Colons.j1 k1 l0 t149 x4_1 x5_1 x6_1 x13_1 l0 (l0.length : Int) x13_1 false ((rd_T35 l0 x13_1).f0) ((rd_T35 l0 x13_1).f1) ((rd_T35 l0 x13_1).f2) ((rd_T35 l0 x13_1).f3.f0) ((rd_T35 l0 x13_1).f3.f1) ((rd_T35 l0 x13_1).f3.f2) ((rd_T35 l0 x13_1).f4) ((rd_T35 l0 x13_1).f5) ((rd_T35 l0 x13_1).f6.f0) ((rd_T35 l0 x13_1).f6.f1) ((rd_T35 l0 x13_1).f6.f2) ((rd_T35 l0 x13_1).f6.f3) ((rd_T35 l0 x13_1).f7)) = some r := by rw [if_neg (show ¬ (false = true) by decide)] at H; exact H
         clear H
         have H := H1
         clear H1
         have H' := Aside0.mk H
         clear H
         have hcz26_0 : w19.cell? ⟨gb153, 0, none⟩ = some (.int .i64 ((rd_T35 l0 x13_1).f0)) := (blk_cell BK153.out 0).trans rfl
         have hcz26_1 : w19.cell? ⟨gb153, 1, none⟩ = some (.string ((rd_T35 l0 x13_1).f1)) := (blk_cell BK153.out 1).trans rfl
         have hcz26_2 : w19.cell? ⟨gb153, 2, none⟩ = some (.string ((rd_T35 l0 x13_1).f2)) := (blk_cell BK153.out 2).trans rfl
         have hcz26_3 : w19.cell? ⟨gb153, 3, none⟩ = some (.bool ((rd_T35 l0 x13_1).f3.f0)) := (blk_cell BK153.out 3).trans rfl
         have hcz26_4 : w19.cell? ⟨gb153, 4, none⟩ = some (.string ((rd_T35 l0 x13_1).f3.f1)) := (blk_cell BK153.out 4).trans rfl
         have hcz26_5 : w19.cell? ⟨gb153, 5, none⟩ = some (.string ((rd_T35 l0 x13_1).f3.f2)) := (blk_cell BK153.out 5).trans rfl
         have hcz26_6 : w19.cell? ⟨gb153, 6, none⟩ = some (.bool ((rd_T35 l0 x13_1).f4)) := (blk_cell BK153.out 6).trans rfl
         have hcz26_7 : w19.cell? ⟨gb153, 7, none⟩ = some (.bool ((rd_T35 l0 x13_1).f5)) := (blk_cell BK153.out 7).trans rfl
         have hcz26_8 : w19.cell? ⟨gb153, 8, none⟩ = some (.int .i64 ((rd_T35 l0 x13_1).f6.f0)) := (blk_cell BK153.out 8).trans rfl
         have hcz26_9 : w19.cell? ⟨gb153, 9, none⟩ = some (.int .i64 ((rd_T35 l0 x13_1).f6.f1)) := (blk_cell BK153.out 9).trans rfl
         have hcz26_10 : w19.cell? ⟨gb153, 10, none⟩ = some (.int .i64 ((rd_T35 l0 x13_1).f6.f2)) := (blk_cell BK153.out 10).trans rfl
         have hcz26_11 : w19.cell? ⟨gb153, 11, none⟩ = some (.int .i64 ((rd_T35 l0 x13_1).f6.f3)) := (blk_cell BK153.out 11).trans rfl
         have hcz26_12 : w19.cell? ⟨gb153, 12, none⟩ = some (.int .i64 ((rd_T35 l0 x13_1).f7)) := (blk_cell BK153.out 12).trans rfl
         have hfz26_0 := blk_frozen BK153.out 0
         have hfz26_1 := blk_frozen BK153.out 1
         have hfz26_2 := blk_frozen BK153.out 2
         have hfz26_3 := blk_frozen BK153.out 3
         have hfz26_4 := blk_frozen BK153.out 4
         have hfz26_5 := blk_frozen BK153.out 5
         have hfz26_6 := blk_frozen BK153.out 6
         have hfz26_7 := blk_frozen BK153.out 7
         have hfz26_8 := blk_frozen BK153.out 8
         have hfz26_9 := blk_frozen BK153.out 9
         have hfz26_10 := blk_frozen BK153.out 10
         have hfz26_11 := blk_frozen BK153.out 11
         have hfz26_12 := blk_frozen BK153.out 12
         go_wp2_with (first | (go_at_call 32; (with_reducible refine (cvalue_part.calls ((rd_T35 l0 x13_1).f0) ((rd_T35 l0 x13_1).f1) ((rd_T35 l0 x13_1).f2) ((rd_T35 l0 x13_1).f3.f0) ((rd_T35 l0 x13_1).f3.f1) ((rd_T35 l0 x13_1).f3.f2) ((rd_T35 l0 x13_1).f4) ((rd_T35 l0 x13_1).f5) ((rd_T35 l0 x13_1).f6.f0) ((rd_T35 l0 x13_1).f6.f1) ((rd_T35 l0 x13_1).f6.f2) ((rd_T35 l0 x13_1).f6.f3) ((rd_T35 l0 x13_1).f7) false _ A20.out).mono ?_); rintro e w27 ⟨rfl, hb⟩; have n0_ := Aside0.mk (Kd.R_below (rwP HO_3.out) hb); have n1_ := Aside0.mk (Kd.R_below (rwP HO_4.out) hb); have n2_ := Aside0.mk (blk_below (g := gb153) (o := .cells #[.int .i64 ((rd_T35 l0 x13_1).f0), .string ((rd_T35 l0 x13_1).f1), .string ((rd_T35 l0 x13_1).f2), .bool ((rd_T35 l0 x13_1).f3.f0), .string ((rd_T35 l0 x13_1).f3.f1), .string ((rd_T35 l0 x13_1).f3.f2), .bool ((rd_T35 l0 x13_1).f4), .bool ((rd_T35 l0 x13_1).f5), .int .i64 ((rd_T35 l0 x13_1).f6.f0), .int .i64 ((rd_T35 l0 x13_1).f6.f1), .int .i64 ((rd_T35 l0 x13_1).f6.f2), .int .i64 ((rd_T35 l0 x13_1).f6.f3), .int .i64 ((rd_T35 l0 x13_1).f7)] 35 (0, 0)) (bkP BK153.out) hb); have n3_ := Aside0.mk (below_step (hbP1 HB.out GE153.out) hb); clear HO_3; clear HO_4; clear BK153; clear HB; have HO_3 := n0_; have HO_4 := n1_; have BK153 := n2_; have HB := n3_; clear n0_ n1_ n2_ n3_; (try clear hb); (try clear hb2); (try clear hk); (try clear hi)))
         go_meet
         case rel => exact ⟨_, (false), vqP, H', ⟨by have := HK1.out; first | omega | exact Nat.le_refl _⟩, ⟨rwP HO_3.out⟩, ⟨rwP HO_4.out⟩, ⟨bkP BK153.out⟩, ⟨hbP1 HB.out GE153.out⟩⟩
       case rest =>
        clear HC14
        obtain ⟨kq, x21_13, rfl, HA, HJ13, HO_3, HO_4, BK153, HB⟩ := hcut
        cases kq with
        | zero => exact absurd HA.out (by simp [cvalue_Colons.j1])
        | succ kj13 =>
         have H := HA.out
         clear HA
         simp only [cvalue_Colons.j1] at H
         by_cases c28 : x21_13 = true
         ·subst c28
          have H1 : (cvalue_Colons.l0 kj13 l0 t149 x4_1 0 x6_1 l0 (l0.length : Int) (wrap64 (x13_1 + 1))) = some r := by rw [if_pos rfl] at H; exact H
          clear H
          have H := H1
          clear H1
          have H' := Aside0.mk H
          clear H
          go_wp2
          go_roundg kj13
          case measure => have := HK1.out; have := HJ13.out; omega
          case rel => exact ⟨(x4_1), (0), (x6_1), (wrap64 (x13_1 + 1)), vqP, vqP, vqP, H', ⟨by have := HK1.out; have := HJ13.out; omega⟩, ⟨rwP HO_3.out⟩, ⟨rwP HO_4.out⟩, ⟨hbP1 HB.out GE153.out⟩⟩
         ·replace c28 := Bool.eq_false_iff.mpr c28
          subst c28
          have H1 : (if ((rd_T35 l0 x13_1).f0) = 16 then (if 0 ≤ x13_1 then (if x13_1 < (t149.length : Int) then (if (rd_T46 t149 x13_1).f1 = true then (if ((rd_T46 t149 x13_1).f0) > 0 then (if x5_1 = 1 then (if x6_1 = true then ((cvalue_plain.f kj13 l0 t149 x13_1).bind fun t159 => (if t159 = true then (if x4_1.length < 17592186044416 then (cvalue_Colons.l0 kj13 l0 t149 (x4_1 ++ [x13_1]) (wrap64 (x5_1 + 1)) (((rd_T35 l0 x13_1).f0) == 1) l0 (l0.length : Int) (wrap64 (x13_1 + 1))) else (none)) else (none))) else (none)) else (none)) else (cvalue_Colons.l0 kj13 l0 t149 x4_1 (wrap64 (x5_1 + 1)) (((rd_T35 l0 x13_1).f0) == 1) l0 (l0.length : Int) (wrap64 (x13_1 + 1)))) else (none)) else (none)) else (none)) else (cvalue_Colons.l0 kj13 l0 t149 x4_1 (wrap64 (x5_1 + 1)) (((rd_T35 l0 x13_1).f0) == 1) l0 (l0.length : Int) (wrap64 (x13_1 + 1)))) = some r := by rw [if_neg (show ¬ (false = true) by decide)] at H; exact H
          clear H
          have H := H1
          clear H1
          by_cases c29 : ((rd_T35 l0 x13_1).f0) = 16
          ·rw [if_pos c29] at H
           have c29b0 : (((rd_T35 l0 x13_1).f0) == 16) = true := beq_iff_eq.mpr c29
           have c29b1 : (((rd_T35 l0 x13_1).f0) != 16) = false := bne_eq_false_iff_eq.mpr c29
           clear c29
           by_cases c30 : 0 ≤ x13_1
           ·rw [if_pos c30] at H
            have c30b0 : decide (0 ≤ x13_1) = true := decide_eq_true c30
            clear c30
            by_cases c31 : x13_1 < (t149.length : Int)
            ·rw [if_pos c31] at H
             have c31b0 : decide (x13_1 < (t149.length : Int)) = true := decide_eq_true c31
             clear c31
             obtain ⟨bq32, hbq32⟩ : ∃ b_ : Bool, b_ = ((rd_T46 t149 x13_1).f1) := ⟨_, rfl⟩
             replace H : (if bq32 = true then (if ((rd_T46 t149 x13_1).f0) > 0 then (if x5_1 = 1 then (if x6_1 = true then ((cvalue_plain.f kj13 l0 t149 x13_1).bind fun t159 => (if t159 = true then (if x4_1.length < 17592186044416 then (cvalue_Colons.l0 kj13 l0 t149 (x4_1 ++ [x13_1]) (wrap64 (x5_1 + 1)) (((rd_T35 l0 x13_1).f0) == 1) l0 (l0.length : Int) (wrap64 (x13_1 + 1))) else (none)) else (none))) else (none)) else (none)) else (cvalue_Colons.l0 kj13 l0 t149 x4_1 (wrap64 (x5_1 + 1)) (((rd_T35 l0 x13_1).f0) == 1) l0 (l0.length : Int) (wrap64 (x13_1 + 1)))) else (none)) = some r := by rw [← hbq32] at H; exact H
             have Nbq32 := Aside0.mk hbq32
             clear hbq32
             by_cases c33 : bq32 = true
             ·subst c33
              have H1 : (if ((rd_T46 t149 x13_1).f0) > 0 then (if x5_1 = 1 then (if x6_1 = true then ((cvalue_plain.f kj13 l0 t149 x13_1).bind fun t159 => (if t159 = true then (if x4_1.length < 17592186044416 then (cvalue_Colons.l0 kj13 l0 t149 (x4_1 ++ [x13_1]) (wrap64 (x5_1 + 1)) (((rd_T35 l0 x13_1).f0) == 1) l0 (l0.length : Int) (wrap64 (x13_1 + 1))) else (none)) else (none))) else (none)) else (none)) else (cvalue_Colons.l0 kj13 l0 t149 x4_1 (wrap64 (x5_1 + 1)) (((rd_T35 l0 x13_1).f0) == 1) l0 (l0.length : Int) (wrap64 (x13_1 + 1)))) = some r := by rw [if_pos rfl] at H; exact H
              clear H
              have H := H1
              clear H1
              by_cases c34 : ((rd_T46 t149 x13_1).f0) > 0
              ·rw [if_pos c34] at H
               have c34b0 : decide (0 < ((rd_T46 t149 x13_1).f0)) = true := decide_eq_true c34
               clear c34
               by_cases c35 : x5_1 = 1
               ·rw [if_pos c35] at H
                have c35b0 : (x5_1 == 1) = true := beq_iff_eq.mpr c35
                have c35b1 : (x5_1 != 1) = false := bne_eq_false_iff_eq.mpr c35
                clear c35
                by_cases c36 : x6_1 = true
                ·subst c36
                 have H1 : ((cvalue_plain.f kj13 l0 t149 x13_1).bind fun t159 => (if t159 = true then (if x4_1.length < 17592186044416 then (cvalue_Colons.l0 kj13 l0 t149 (x4_1 ++ [x13_1]) (wrap64 (x5_1 + 1)) (((rd_T35 l0 x13_1).f0) == 1) l0 (l0.length : Int) (wrap64 (x13_1 + 1))) else (none)) else (none))) = some r := by rw [if_pos rfl] at H; exact H
                 clear H
                 have H := H1
                 clear H1
                 replace H := Option.bind_eq_some_iff.mp H
                 obtain ⟨t159, A370, H⟩ := H
                 replace H : (if t159 = true then (if x4_1.length < 17592186044416 then (cvalue_Colons.l0 kj13 l0 t149 (x4_1 ++ [x13_1]) (wrap64 (x5_1 + 1)) (((rd_T35 l0 x13_1).f0) == 1) l0 (l0.length : Int) (wrap64 (x13_1 + 1))) else (none)) else (none)) = some r := H
                 have A37 := Aside0.mk A370
                 clear A370
                 by_cases c38 : t159 = true
                 ·subst c38
                  have H1 : (if x4_1.length < 17592186044416 then (cvalue_Colons.l0 kj13 l0 t149 (x4_1 ++ [x13_1]) (wrap64 (x5_1 + 1)) (((rd_T35 l0 x13_1).f0) == 1) l0 (l0.length : Int) (wrap64 (x13_1 + 1))) else (none)) = some r := by rw [if_pos rfl] at H; exact H
                  clear H
                  have H := H1
                  clear H1
                  by_cases c39 : x4_1.length < 17592186044416
                  ·rw [if_pos c39] at H
                   have LMc39 := Aside0.mk c39
                   clear c39
                   obtain ⟨y160, hy160⟩ : ∃ y_ : List Int, y_ = (x4_1 ++ [x13_1]) := ⟨_, rfl⟩
                   replace H : (cvalue_Colons.l0 kj13 l0 t149 y160 (wrap64 (x5_1 + 1)) (((rd_T35 l0 x13_1).f0) == 1) l0 (l0.length : Int) (wrap64 (x13_1 + 1))) = some r := by first | (rw [hy160]; with_reducible exact H) | (have H2_ := (Option.bind_some _ _).symm.trans H; rw [hy160]; with_reducible exact H2_) | (have H2_ := (Option.bind_some _ _).symm.trans H; with_reducible exact H2_) | with_reducible exact H | (rw [hy160]; exact H) | exact H
                   have Ny160 := Aside0.mk hy160
                   clear hy160
                   have H' := Aside0.mk H
                   clear H
                   have hcz40_0 : wc.cell? ⟨gb153, 0, none⟩ = some (.int .i64 ((rd_T35 l0 x13_1).f0)) := (blk_cell BK153.out 0).trans rfl
                   have hcz40_1 : wc.cell? ⟨gb153, 1, none⟩ = some (.string ((rd_T35 l0 x13_1).f1)) := (blk_cell BK153.out 1).trans rfl
                   have hcz40_2 : wc.cell? ⟨gb153, 2, none⟩ = some (.string ((rd_T35 l0 x13_1).f2)) := (blk_cell BK153.out 2).trans rfl
                   have hcz40_3 : wc.cell? ⟨gb153, 3, none⟩ = some (.bool ((rd_T35 l0 x13_1).f3.f0)) := (blk_cell BK153.out 3).trans rfl
                   have hcz40_4 : wc.cell? ⟨gb153, 4, none⟩ = some (.string ((rd_T35 l0 x13_1).f3.f1)) := (blk_cell BK153.out 4).trans rfl
                   have hcz40_5 : wc.cell? ⟨gb153, 5, none⟩ = some (.string ((rd_T35 l0 x13_1).f3.f2)) := (blk_cell BK153.out 5).trans rfl
                   have hcz40_6 : wc.cell? ⟨gb153, 6, none⟩ = some (.bool ((rd_T35 l0 x13_1).f4)) := (blk_cell BK153.out 6).trans rfl
                   have hcz40_7 : wc.cell? ⟨gb153, 7, none⟩ = some (.bool ((rd_T35 l0 x13_1).f5)) := (blk_cell BK153.out 7).trans rfl
                   have hcz40_8 : wc.cell? ⟨gb153, 8, none⟩ = some (.int .i64 ((rd_T35 l0 x13_1).f6.f0)) := (blk_cell BK153.out 8).trans rfl
                   have hcz40_9 : wc.cell? ⟨gb153, 9, none⟩ = some (.int .i64 ((rd_T35 l0 x13_1).f6.f1)) := (blk_cell BK153.out 9).trans rfl
                   have hcz40_10 : wc.cell? ⟨gb153, 10, none⟩ = some (.int .i64 ((rd_T35 l0 x13_1).f6.f2)) := (blk_cell BK153.out 10).trans rfl
                   have hcz40_11 : wc.cell? ⟨gb153, 11, none⟩ = some (.int .i64 ((rd_T35 l0 x13_1).f6.f3)) := (blk_cell BK153.out 11).trans rfl
                   have hcz40_12 : wc.cell? ⟨gb153, 12, none⟩ = some (.int .i64 ((rd_T35 l0 x13_1).f7)) := (blk_cell BK153.out 12).trans rfl
                   have hfz40_0 := blk_frozen BK153.out 0
                   have hfz40_1 := blk_frozen BK153.out 1
                   have hfz40_2 := blk_frozen BK153.out 2
                   have hfz40_3 := blk_frozen BK153.out 3
                   have hfz40_4 := blk_frozen BK153.out 4
                   have hfz40_5 := blk_frozen BK153.out 5
                   have hfz40_6 := blk_frozen BK153.out 6
                   have hfz40_7 := blk_frozen BK153.out 7
                   have hfz40_8 := blk_frozen BK153.out 8
                   have hfz40_9 := blk_frozen BK153.out 9
                   have hfz40_10 := blk_frozen BK153.out 10
                   have hfz40_11 := blk_frozen BK153.out 11
                   have hfz40_12 := blk_frozen BK153.out 12
                   obtain ⟨Ao41, co41, eo41⟩ := Kd.R_slice HO_3.out
                   subst eo41
                   have p157 : 0 ≤ (x13_1 : Int) := of_decide_eq_true (by first | (with_reducible assumption) | assumption)
                   have q157 : x13_1 < (t149.length : Int) := of_decide_eq_true (by first | (with_reducible assumption) | assumption)
                   obtain ⟨ad157, e157, hx157_0, hx157_1, hx157_2⟩ := at_T46 (Kd.R_reads' HO_3.out).2.2 x13_1 p157 q157
                   (try rw [← Nbq32.out] at hx157_1)
                   (try rw [← Nbq32.out] at hx157_2)
                   cases e157
                   replace p157 := eq_true p157
                   replace q157 := eq_true q157
                   have p158 : 0 ≤ (x13_1 : Int) := of_decide_eq_true (by first | (with_reducible assumption) | assumption)
                   have q158 : x13_1 < (t149.length : Int) := of_decide_eq_true (by first | (with_reducible assumption) | assumption)
                   obtain ⟨ad158, e158, hx158_0, hx158_1, hx158_2⟩ := at_T46 (Kd.R_reads' HO_3.out).2.2 x13_1 p158 q158
                   (try rw [← Nbq32.out] at hx158_1)
                   (try rw [← Nbq32.out] at hx158_2)
                   obtain rfl : ad157 = ad158 := (by injection e158)
                   replace p158 := eq_true p158
                   replace q158 := eq_true q158
                   go_wp2_with (first | (go_at_call 33; (with_reducible refine (cvalue_plain.calls kj13 _ _ l0 _ _ t149 x13_1 true _ ?side1 ?side2 ?side3 ?side4 A37.out).mono ?_); (case side1 => repeat (first | exact (Kd.C_below HR0.out HB.out) | (with_reducible refine Kd.C_alloc ?_ _) | (with_reducible refine Kd.C_drewN ?_ _) | (with_reducible refine Kd.C_drew ?_))); (case side2 => exact HC0.out); (case side3 => repeat (first | exact (Kd.R_reads' HO_3.out).2.2 | (with_reducible refine Kd.C_alloc ?_ _) | (with_reducible refine Kd.C_drewN ?_ _) | (with_reducible refine Kd.C_drew ?_))); (case side4 => exact (Kd.R_reads' HO_3.out).2.1); rintro e w42 ⟨rfl, hb⟩; have n0_ := Aside0.mk (Kd.R_below (rwP HO_3.out) hb); have n1_ := Aside0.mk (Kd.R_below (rwP HO_4.out) hb); have n2_ := Aside0.mk (blk_below (g := gb153) (o := .cells #[.int .i64 ((rd_T35 l0 x13_1).f0), .string ((rd_T35 l0 x13_1).f1), .string ((rd_T35 l0 x13_1).f2), .bool ((rd_T35 l0 x13_1).f3.f0), .string ((rd_T35 l0 x13_1).f3.f1), .string ((rd_T35 l0 x13_1).f3.f2), .bool ((rd_T35 l0 x13_1).f4), .bool ((rd_T35 l0 x13_1).f5), .int .i64 ((rd_T35 l0 x13_1).f6.f0), .int .i64 ((rd_T35 l0 x13_1).f6.f1), .int .i64 ((rd_T35 l0 x13_1).f6.f2), .int .i64 ((rd_T35 l0 x13_1).f6.f3), .int .i64 ((rd_T35 l0 x13_1).f7)] 35 (0, 0)) (bkP BK153.out) hb); have n3_ := Aside0.mk (below_step (hbP1 HB.out GE153.out) hb); clear HO_3; clear HO_4; clear BK153; clear HB; have HO_3 := n0_; have HO_4 := n1_; have BK153 := n2_; have HB := n3_; clear n0_ n1_ n2_ n3_; (try clear hb); (try clear hb2); (try clear hk); (try clear hi)) | ((with_reducible refine gate_builtin (b := .append) (xs := #[.tmp 63, .tmp 65]) rfl ?_); at_builtin; refine Kd.R_append (Kd.int .i64) (w0 := w) w.heap.size rfl (.tmp 63) (.tmp 65) 24 3 (.int .i64 0) 8 rfl Tryz.underlying24 info3 rfl (by decide) (by omega) u4 x4_1 x13_1 [.int .i64 x13_1] (fun _ => True) (fun _ => False) rfl rfl ?aP (fun _ hk => hk.elim) ?aF ?aO ?aB ?aS ?aL ?_; (case aP => exact rfl); (case aB => exact (hbP1 HB.out GE153.out)); (case aF => exact (fun _ _ => trivial)); (case aO => exact (rwP HO_4.out)); (case aS => exact (below_size (hbP1 HB.out GE153.out))); (case aL => have := LMc39.out; omega); intro v161 w43 ho hb hg hat; rw [← Ny160.out] at ho; have n0_ := Aside0.mk (Kd.R_over' (rwP HO_3.out) (Kd.R_typed (rwP HO_4.out)) (by decide) hg); have n1_ := Aside0.mk (blk_grown (g := gb153) (o := .cells #[.int .i64 ((rd_T35 l0 x13_1).f0), .string ((rd_T35 l0 x13_1).f1), .string ((rd_T35 l0 x13_1).f2), .bool ((rd_T35 l0 x13_1).f3.f0), .string ((rd_T35 l0 x13_1).f3.f1), .string ((rd_T35 l0 x13_1).f3.f2), .bool ((rd_T35 l0 x13_1).f4), .bool ((rd_T35 l0 x13_1).f5), .int .i64 ((rd_T35 l0 x13_1).f6.f0), .int .i64 ((rd_T35 l0 x13_1).f6.f1), .int .i64 ((rd_T35 l0 x13_1).f6.f2), .int .i64 ((rd_T35 l0 x13_1).f6.f3), .int .i64 ((rd_T35 l0 x13_1).f7)] 35 (0, 0)) (bkP BK153.out) hg (Kd.R_ne HO_4.out BK153.out (by decide))); have n2_ := Aside0.mk (hb); have n3_ := Aside0.mk (ho); clear HO_3; clear BK153; clear HB; clear HO_4; have HO_3 := n0_; have BK153 := n1_; have HB := n2_; have HO162 := n3_; clear n0_ n1_ n2_ n3_; clear ho hb hg hat; have hcz44_0 : w43.cell? ⟨gb153, 0, none⟩ = some (.int .i64 ((rd_T35 l0 x13_1).f0)) := (blk_cell BK153.out 0).trans rfl; have hcz44_1 : w43.cell? ⟨gb153, 1, none⟩ = some (.string ((rd_T35 l0 x13_1).f1)) := (blk_cell BK153.out 1).trans rfl; have hcz44_2 : w43.cell? ⟨gb153, 2, none⟩ = some (.string ((rd_T35 l0 x13_1).f2)) := (blk_cell BK153.out 2).trans rfl; have hcz44_3 : w43.cell? ⟨gb153, 3, none⟩ = some (.bool ((rd_T35 l0 x13_1).f3.f0)) := (blk_cell BK153.out 3).trans rfl; have hcz44_4 : w43.cell? ⟨gb153, 4, none⟩ = some (.string ((rd_T35 l0 x13_1).f3.f1)) := (blk_cell BK153.out 4).trans rfl; have hcz44_5 : w43.cell? ⟨gb153, 5, none⟩ = some (.string ((rd_T35 l0 x13_1).f3.f2)) := (blk_cell BK153.out 5).trans rfl; have hcz44_6 : w43.cell? ⟨gb153, 6, none⟩ = some (.bool ((rd_T35 l0 x13_1).f4)) := (blk_cell BK153.out 6).trans rfl; have hcz44_7 : w43.cell? ⟨gb153, 7, none⟩ = some (.bool ((rd_T35 l0 x13_1).f5)) := (blk_cell BK153.out 7).trans rfl; have hcz44_8 : w43.cell? ⟨gb153, 8, none⟩ = some (.int .i64 ((rd_T35 l0 x13_1).f6.f0)) := (blk_cell BK153.out 8).trans rfl; have hcz44_9 : w43.cell? ⟨gb153, 9, none⟩ = some (.int .i64 ((rd_T35 l0 x13_1).f6.f1)) := (blk_cell BK153.out 9).trans rfl; have hcz44_10 : w43.cell? ⟨gb153, 10, none⟩ = some (.int .i64 ((rd_T35 l0 x13_1).f6.f2)) := (blk_cell BK153.out 10).trans rfl; have hcz44_11 : w43.cell? ⟨gb153, 11, none⟩ = some (.int .i64 ((rd_T35 l0 x13_1).f6.f3)) := (blk_cell BK153.out 11).trans rfl; have hcz44_12 : w43.cell? ⟨gb153, 12, none⟩ = some (.int .i64 ((rd_T35 l0 x13_1).f7)) := (blk_cell BK153.out 12).trans rfl; have hfz44_0 := blk_frozen BK153.out 0; have hfz44_1 := blk_frozen BK153.out 1; have hfz44_2 := blk_frozen BK153.out 2; have hfz44_3 := blk_frozen BK153.out 3; have hfz44_4 := blk_frozen BK153.out 4; have hfz44_5 := blk_frozen BK153.out 5; have hfz44_6 := blk_frozen BK153.out 6; have hfz44_7 := blk_frozen BK153.out 7; have hfz44_8 := blk_frozen BK153.out 8; have hfz44_9 := blk_frozen BK153.out 9; have hfz44_10 := blk_frozen BK153.out 10; have hfz44_11 := blk_frozen BK153.out 11; have hfz44_12 := blk_frozen BK153.out 12))
                   repeat (go_quiet (first | (go_at_call 33; (with_reducible refine (cvalue_plain.calls kj13 _ _ l0 _ _ t149 x13_1 true _ ?side1 ?side2 ?side3 ?side4 A37.out).mono ?_); (case side1 => repeat (first | exact (Kd.C_below HR0.out HB.out) | (with_reducible refine Kd.C_alloc ?_ _) | (with_reducible refine Kd.C_drewN ?_ _) | (with_reducible refine Kd.C_drew ?_))); (case side2 => exact HC0.out); (case side3 => repeat (first | exact (Kd.R_reads' HO_3.out).2.2 | (with_reducible refine Kd.C_alloc ?_ _) | (with_reducible refine Kd.C_drewN ?_ _) | (with_reducible refine Kd.C_drew ?_))); (case side4 => exact (Kd.R_reads' HO_3.out).2.1); rintro e w42 ⟨rfl, hb⟩; have n0_ := Aside0.mk (Kd.R_below (rwP HO_3.out) hb); have n1_ := Aside0.mk (Kd.R_below (rwP HO_4.out) hb); have n2_ := Aside0.mk (blk_below (g := gb153) (o := .cells #[.int .i64 ((rd_T35 l0 x13_1).f0), .string ((rd_T35 l0 x13_1).f1), .string ((rd_T35 l0 x13_1).f2), .bool ((rd_T35 l0 x13_1).f3.f0), .string ((rd_T35 l0 x13_1).f3.f1), .string ((rd_T35 l0 x13_1).f3.f2), .bool ((rd_T35 l0 x13_1).f4), .bool ((rd_T35 l0 x13_1).f5), .int .i64 ((rd_T35 l0 x13_1).f6.f0), .int .i64 ((rd_T35 l0 x13_1).f6.f1), .int .i64 ((rd_T35 l0 x13_1).f6.f2), .int .i64 ((rd_T35 l0 x13_1).f6.f3), .int .i64 ((rd_T35 l0 x13_1).f7)] 35 (0, 0)) (bkP BK153.out) hb); have n3_ := Aside0.mk (below_step (hbP1 HB.out GE153.out) hb); clear HO_3; clear HO_4; clear BK153; clear HB; have HO_3 := n0_; have HO_4 := n1_; have BK153 := n2_; have HB := n3_; clear n0_ n1_ n2_ n3_; (try clear hb); (try clear hb2); (try clear hk); (try clear hi)) | ((with_reducible refine gate_builtin (b := .append) (xs := #[.tmp 63, .tmp 65]) rfl ?_); at_builtin; refine Kd.R_append (Kd.int .i64) (w0 := w) w.heap.size rfl (.tmp 63) (.tmp 65) 24 3 (.int .i64 0) 8 rfl Tryz.underlying24 info3 rfl (by decide) (by omega) u4 x4_1 x13_1 [.int .i64 x13_1] (fun _ => True) (fun _ => False) rfl rfl ?aP (fun _ hk => hk.elim) ?aF ?aO ?aB ?aS ?aL ?_; (case aP => exact rfl); (case aB => exact (hbP1 HB.out GE153.out)); (case aF => exact (fun _ _ => trivial)); (case aO => exact (rwP HO_4.out)); (case aS => exact (below_size (hbP1 HB.out GE153.out))); (case aL => have := LMc39.out; omega); intro v161 w43 ho hb hg hat; rw [← Ny160.out] at ho; have n0_ := Aside0.mk (Kd.R_over' (rwP HO_3.out) (Kd.R_typed (rwP HO_4.out)) (by decide) hg); have n1_ := Aside0.mk (blk_grown (g := gb153) (o := .cells #[.int .i64 ((rd_T35 l0 x13_1).f0), .string ((rd_T35 l0 x13_1).f1), .string ((rd_T35 l0 x13_1).f2), .bool ((rd_T35 l0 x13_1).f3.f0), .string ((rd_T35 l0 x13_1).f3.f1), .string ((rd_T35 l0 x13_1).f3.f2), .bool ((rd_T35 l0 x13_1).f4), .bool ((rd_T35 l0 x13_1).f5), .int .i64 ((rd_T35 l0 x13_1).f6.f0), .int .i64 ((rd_T35 l0 x13_1).f6.f1), .int .i64 ((rd_T35 l0 x13_1).f6.f2), .int .i64 ((rd_T35 l0 x13_1).f6.f3), .int .i64 ((rd_T35 l0 x13_1).f7)] 35 (0, 0)) (bkP BK153.out) hg (Kd.R_ne HO_4.out BK153.out (by decide))); have n2_ := Aside0.mk (hb); have n3_ := Aside0.mk (ho); clear HO_3; clear BK153; clear HB; clear HO_4; have HO_3 := n0_; have BK153 := n1_; have HB := n2_; have HO162 := n3_; clear n0_ n1_ n2_ n3_; clear ho hb hg hat; have hcz44_0 : w43.cell? ⟨gb153, 0, none⟩ = some (.int .i64 ((rd_T35 l0 x13_1).f0)) := (blk_cell BK153.out 0).trans rfl; have hcz44_1 : w43.cell? ⟨gb153, 1, none⟩ = some (.string ((rd_T35 l0 x13_1).f1)) := (blk_cell BK153.out 1).trans rfl; have hcz44_2 : w43.cell? ⟨gb153, 2, none⟩ = some (.string ((rd_T35 l0 x13_1).f2)) := (blk_cell BK153.out 2).trans rfl; have hcz44_3 : w43.cell? ⟨gb153, 3, none⟩ = some (.bool ((rd_T35 l0 x13_1).f3.f0)) := (blk_cell BK153.out 3).trans rfl; have hcz44_4 : w43.cell? ⟨gb153, 4, none⟩ = some (.string ((rd_T35 l0 x13_1).f3.f1)) := (blk_cell BK153.out 4).trans rfl; have hcz44_5 : w43.cell? ⟨gb153, 5, none⟩ = some (.string ((rd_T35 l0 x13_1).f3.f2)) := (blk_cell BK153.out 5).trans rfl; have hcz44_6 : w43.cell? ⟨gb153, 6, none⟩ = some (.bool ((rd_T35 l0 x13_1).f4)) := (blk_cell BK153.out 6).trans rfl; have hcz44_7 : w43.cell? ⟨gb153, 7, none⟩ = some (.bool ((rd_T35 l0 x13_1).f5)) := (blk_cell BK153.out 7).trans rfl; have hcz44_8 : w43.cell? ⟨gb153, 8, none⟩ = some (.int .i64 ((rd_T35 l0 x13_1).f6.f0)) := (blk_cell BK153.out 8).trans rfl; have hcz44_9 : w43.cell? ⟨gb153, 9, none⟩ = some (.int .i64 ((rd_T35 l0 x13_1).f6.f1)) := (blk_cell BK153.out 9).trans rfl; have hcz44_10 : w43.cell? ⟨gb153, 10, none⟩ = some (.int .i64 ((rd_T35 l0 x13_1).f6.f2)) := (blk_cell BK153.out 10).trans rfl; have hcz44_11 : w43.cell? ⟨gb153, 11, none⟩ = some (.int .i64 ((rd_T35 l0 x13_1).f6.f3)) := (blk_cell BK153.out 11).trans rfl; have hcz44_12 : w43.cell? ⟨gb153, 12, none⟩ = some (.int .i64 ((rd_T35 l0 x13_1).f7)) := (blk_cell BK153.out 12).trans rfl; have hfz44_0 := blk_frozen BK153.out 0; have hfz44_1 := blk_frozen BK153.out 1; have hfz44_2 := blk_frozen BK153.out 2; have hfz44_3 := blk_frozen BK153.out 3; have hfz44_4 := blk_frozen BK153.out 4; have hfz44_5 := blk_frozen BK153.out 5; have hfz44_6 := blk_frozen BK153.out 6; have hfz44_7 := blk_frozen BK153.out 7; have hfz44_8 := blk_frozen BK153.out 8; have hfz44_9 := blk_frozen BK153.out 9; have hfz44_10 := blk_frozen BK153.out 10; have hfz44_11 := blk_frozen BK153.out 11; have hfz44_12 := blk_frozen BK153.out 12)); try go_wp2_with (first | (go_at_call 33; (with_reducible refine (cvalue_plain.calls kj13 _ _ l0 _ _ t149 x13_1 true _ ?side1 ?side2 ?side3 ?side4 A37.out).mono ?_); (case side1 => repeat (first | exact (Kd.C_below HR0.out HB.out) | (with_reducible refine Kd.C_alloc ?_ _) | (with_reducible refine Kd.C_drewN ?_ _) | (with_reducible refine Kd.C_drew ?_))); (case side2 => exact HC0.out); (case side3 => repeat (first | exact (Kd.R_reads' HO_3.out).2.2 | (with_reducible refine Kd.C_alloc ?_ _) | (with_reducible refine Kd.C_drewN ?_ _) | (with_reducible refine Kd.C_drew ?_))); (case side4 => exact (Kd.R_reads' HO_3.out).2.1); rintro e w42 ⟨rfl, hb⟩; have n0_ := Aside0.mk (Kd.R_below (rwP HO_3.out) hb); have n1_ := Aside0.mk (Kd.R_below (rwP HO_4.out) hb); have n2_ := Aside0.mk (blk_below (g := gb153) (o := .cells #[.int .i64 ((rd_T35 l0 x13_1).f0), .string ((rd_T35 l0 x13_1).f1), .string ((rd_T35 l0 x13_1).f2), .bool ((rd_T35 l0 x13_1).f3.f0), .string ((rd_T35 l0 x13_1).f3.f1), .string ((rd_T35 l0 x13_1).f3.f2), .bool ((rd_T35 l0 x13_1).f4), .bool ((rd_T35 l0 x13_1).f5), .int .i64 ((rd_T35 l0 x13_1).f6.f0), .int .i64 ((rd_T35 l0 x13_1).f6.f1), .int .i64 ((rd_T35 l0 x13_1).f6.f2), .int .i64 ((rd_T35 l0 x13_1).f6.f3), .int .i64 ((rd_T35 l0 x13_1).f7)] 35 (0, 0)) (bkP BK153.out) hb); have n3_ := Aside0.mk (below_step (hbP1 HB.out GE153.out) hb); clear HO_3; clear HO_4; clear BK153; clear HB; have HO_3 := n0_; have HO_4 := n1_; have BK153 := n2_; have HB := n3_; clear n0_ n1_ n2_ n3_; (try clear hb); (try clear hb2); (try clear hk); (try clear hi)) | ((with_reducible refine gate_builtin (b := .append) (xs := #[.tmp 63, .tmp 65]) rfl ?_); at_builtin; refine Kd.R_append (Kd.int .i64) (w0 := w) w.heap.size rfl (.tmp 63) (.tmp 65) 24 3 (.int .i64 0) 8 rfl Tryz.underlying24 info3 rfl (by decide) (by omega) u4 x4_1 x13_1 [.int .i64 x13_1] (fun _ => True) (fun _ => False) rfl rfl ?aP (fun _ hk => hk.elim) ?aF ?aO ?aB ?aS ?aL ?_; (case aP => exact rfl); (case aB => exact (hbP1 HB.out GE153.out)); (case aF => exact (fun _ _ => trivial)); (case aO => exact (rwP HO_4.out)); (case aS => exact (below_size (hbP1 HB.out GE153.out))); (case aL => have := LMc39.out; omega); intro v161 w43 ho hb hg hat; rw [← Ny160.out] at ho; have n0_ := Aside0.mk (Kd.R_over' (rwP HO_3.out) (Kd.R_typed (rwP HO_4.out)) (by decide) hg); have n1_ := Aside0.mk (blk_grown (g := gb153) (o := .cells #[.int .i64 ((rd_T35 l0 x13_1).f0), .string ((rd_T35 l0 x13_1).f1), .string ((rd_T35 l0 x13_1).f2), .bool ((rd_T35 l0 x13_1).f3.f0), .string ((rd_T35 l0 x13_1).f3.f1), .string ((rd_T35 l0 x13_1).f3.f2), .bool ((rd_T35 l0 x13_1).f4), .bool ((rd_T35 l0 x13_1).f5), .int .i64 ((rd_T35 l0 x13_1).f6.f0), .int .i64 ((rd_T35 l0 x13_1).f6.f1), .int .i64 ((rd_T35 l0 x13_1).f6.f2), .int .i64 ((rd_T35 l0 x13_1).f6.f3), .int .i64 ((rd_T35 l0 x13_1).f7)] 35 (0, 0)) (bkP BK153.out) hg (Kd.R_ne HO_4.out BK153.out (by decide))); have n2_ := Aside0.mk (hb); have n3_ := Aside0.mk (ho); clear HO_3; clear BK153; clear HB; clear HO_4; have HO_3 := n0_; have BK153 := n1_; have HB := n2_; have HO162 := n3_; clear n0_ n1_ n2_ n3_; clear ho hb hg hat; have hcz44_0 : w43.cell? ⟨gb153, 0, none⟩ = some (.int .i64 ((rd_T35 l0 x13_1).f0)) := (blk_cell BK153.out 0).trans rfl; have hcz44_1 : w43.cell? ⟨gb153, 1, none⟩ = some (.string ((rd_T35 l0 x13_1).f1)) := (blk_cell BK153.out 1).trans rfl; have hcz44_2 : w43.cell? ⟨gb153, 2, none⟩ = some (.string ((rd_T35 l0 x13_1).f2)) := (blk_cell BK153.out 2).trans rfl; have hcz44_3 : w43.cell? ⟨gb153, 3, none⟩ = some (.bool ((rd_T35 l0 x13_1).f3.f0)) := (blk_cell BK153.out 3).trans rfl; have hcz44_4 : w43.cell? ⟨gb153, 4, none⟩ = some (.string ((rd_T35 l0 x13_1).f3.f1)) := (blk_cell BK153.out 4).trans rfl; have hcz44_5 : w43.cell? ⟨gb153, 5, none⟩ = some (.string ((rd_T35 l0 x13_1).f3.f2)) := (blk_cell BK153.out 5).trans rfl; have hcz44_6 : w43.cell? ⟨gb153, 6, none⟩ = some (.bool ((rd_T35 l0 x13_1).f4)) := (blk_cell BK153.out 6).trans rfl; have hcz44_7 : w43.cell? ⟨gb153, 7, none⟩ = some (.bool ((rd_T35 l0 x13_1).f5)) := (blk_cell BK153.out 7).trans rfl; have hcz44_8 : w43.cell? ⟨gb153, 8, none⟩ = some (.int .i64 ((rd_T35 l0 x13_1).f6.f0)) := (blk_cell BK153.out 8).trans rfl; have hcz44_9 : w43.cell? ⟨gb153, 9, none⟩ = some (.int .i64 ((rd_T35 l0 x13_1).f6.f1)) := (blk_cell BK153.out 9).trans rfl; have hcz44_10 : w43.cell? ⟨gb153, 10, none⟩ = some (.int .i64 ((rd_T35 l0 x13_1).f6.f2)) := (blk_cell BK153.out 10).trans rfl; have hcz44_11 : w43.cell? ⟨gb153, 11, none⟩ = some (.int .i64 ((rd_T35 l0 x13_1).f6.f3)) := (blk_cell BK153.out 11).trans rfl; have hcz44_12 : w43.cell? ⟨gb153, 12, none⟩ = some (.int .i64 ((rd_T35 l0 x13_1).f7)) := (blk_cell BK153.out 12).trans rfl; have hfz44_0 := blk_frozen BK153.out 0; have hfz44_1 := blk_frozen BK153.out 1; have hfz44_2 := blk_frozen BK153.out 2; have hfz44_3 := blk_frozen BK153.out 3; have hfz44_4 := blk_frozen BK153.out 4; have hfz44_5 := blk_frozen BK153.out 5; have hfz44_6 := blk_frozen BK153.out 6; have hfz44_7 := blk_frozen BK153.out 7; have hfz44_8 := blk_frozen BK153.out 8; have hfz44_9 := blk_frozen BK153.out 9; have hfz44_10 := blk_frozen BK153.out 10; have hfz44_11 := blk_frozen BK153.out 11; have hfz44_12 := blk_frozen BK153.out 12)))
                   go_roundg kj13
                   case measure => have := HK1.out; have := HJ13.out; omega
                   case rel => exact ⟨(y160), (wrap64 (x5_1 + 1)), ((((rd_T35 l0 x13_1).f0) == 1)), (wrap64 (x13_1 + 1)), vqP, vqP, vqP, H', ⟨by have := HK1.out; have := HJ13.out; omega⟩, ⟨rwP HO_3.out⟩, ⟨rwP HO162.out⟩, ⟨hbP1 HB.out GE153.out⟩⟩
                  ·rw [if_neg c39] at H
                   exact absurd H (by simp)
                 ·replace c38 := Bool.eq_false_iff.mpr c38
                  subst c38
                  have H1 : (none) = some r := by rw [if_neg (show ¬ (false = true) by decide)] at H; exact H
                  clear H
                  have H := H1
                  clear H1
                  exact absurd H (by simp)
                ·replace c36 := Bool.eq_false_iff.mpr c36
                 subst c36
                 have H1 : (none) = some r := by rw [if_neg (show ¬ (false = true) by decide)] at H; exact H
                 clear H
                 have H := H1
                 clear H1
                 exact absurd H (by simp)
               ·rw [if_neg c35] at H
                exact absurd H (by simp)
              ·rw [if_neg c34] at H
               have c34b0 : decide (0 < ((rd_T46 t149 x13_1).f0)) = false := decide_eq_false c34
               clear c34
               have H' := Aside0.mk H
               clear H
               have hcz45_0 : wc.cell? ⟨gb153, 0, none⟩ = some (.int .i64 ((rd_T35 l0 x13_1).f0)) := (blk_cell BK153.out 0).trans rfl
               have hcz45_1 : wc.cell? ⟨gb153, 1, none⟩ = some (.string ((rd_T35 l0 x13_1).f1)) := (blk_cell BK153.out 1).trans rfl
               have hcz45_2 : wc.cell? ⟨gb153, 2, none⟩ = some (.string ((rd_T35 l0 x13_1).f2)) := (blk_cell BK153.out 2).trans rfl
               have hcz45_3 : wc.cell? ⟨gb153, 3, none⟩ = some (.bool ((rd_T35 l0 x13_1).f3.f0)) := (blk_cell BK153.out 3).trans rfl
               have hcz45_4 : wc.cell? ⟨gb153, 4, none⟩ = some (.string ((rd_T35 l0 x13_1).f3.f1)) := (blk_cell BK153.out 4).trans rfl
               have hcz45_5 : wc.cell? ⟨gb153, 5, none⟩ = some (.string ((rd_T35 l0 x13_1).f3.f2)) := (blk_cell BK153.out 5).trans rfl
               have hcz45_6 : wc.cell? ⟨gb153, 6, none⟩ = some (.bool ((rd_T35 l0 x13_1).f4)) := (blk_cell BK153.out 6).trans rfl
               have hcz45_7 : wc.cell? ⟨gb153, 7, none⟩ = some (.bool ((rd_T35 l0 x13_1).f5)) := (blk_cell BK153.out 7).trans rfl
               have hcz45_8 : wc.cell? ⟨gb153, 8, none⟩ = some (.int .i64 ((rd_T35 l0 x13_1).f6.f0)) := (blk_cell BK153.out 8).trans rfl
               have hcz45_9 : wc.cell? ⟨gb153, 9, none⟩ = some (.int .i64 ((rd_T35 l0 x13_1).f6.f1)) := (blk_cell BK153.out 9).trans rfl
               have hcz45_10 : wc.cell? ⟨gb153, 10, none⟩ = some (.int .i64 ((rd_T35 l0 x13_1).f6.f2)) := (blk_cell BK153.out 10).trans rfl
               have hcz45_11 : wc.cell? ⟨gb153, 11, none⟩ = some (.int .i64 ((rd_T35 l0 x13_1).f6.f3)) := (blk_cell BK153.out 11).trans rfl
               have hcz45_12 : wc.cell? ⟨gb153, 12, none⟩ = some (.int .i64 ((rd_T35 l0 x13_1).f7)) := (blk_cell BK153.out 12).trans rfl
               have hfz45_0 := blk_frozen BK153.out 0
               have hfz45_1 := blk_frozen BK153.out 1
               have hfz45_2 := blk_frozen BK153.out 2
               have hfz45_3 := blk_frozen BK153.out 3
               have hfz45_4 := blk_frozen BK153.out 4
               have hfz45_5 := blk_frozen BK153.out 5
               have hfz45_6 := blk_frozen BK153.out 6
               have hfz45_7 := blk_frozen BK153.out 7
               have hfz45_8 := blk_frozen BK153.out 8
               have hfz45_9 := blk_frozen BK153.out 9
               have hfz45_10 := blk_frozen BK153.out 10
               have hfz45_11 := blk_frozen BK153.out 11
               have hfz45_12 := blk_frozen BK153.out 12
               obtain ⟨Ao46, co46, eo46⟩ := Kd.R_slice HO_3.out
               subst eo46
               have p157 : 0 ≤ (x13_1 : Int) := of_decide_eq_true (by first | (with_reducible assumption) | assumption)
               have q157 : x13_1 < (t149.length : Int) := of_decide_eq_true (by first | (with_reducible assumption) | assumption)
               obtain ⟨ad157, e157, hx157_0, hx157_1, hx157_2⟩ := at_T46 (Kd.R_reads' HO_3.out).2.2 x13_1 p157 q157
               (try rw [← Nbq32.out] at hx157_1)
               (try rw [← Nbq32.out] at hx157_2)
               cases e157
               replace p157 := eq_true p157
               replace q157 := eq_true q157
               have p158 : 0 ≤ (x13_1 : Int) := of_decide_eq_true (by first | (with_reducible assumption) | assumption)
               have q158 : x13_1 < (t149.length : Int) := of_decide_eq_true (by first | (with_reducible assumption) | assumption)
               obtain ⟨ad158, e158, hx158_0, hx158_1, hx158_2⟩ := at_T46 (Kd.R_reads' HO_3.out).2.2 x13_1 p158 q158
               (try rw [← Nbq32.out] at hx158_1)
               (try rw [← Nbq32.out] at hx158_2)
               obtain rfl : ad157 = ad158 := (by injection e158)
               replace p158 := eq_true p158
               replace q158 := eq_true q158
               go_wp2
               repeat (go_quiet (fail); try go_wp2)
               go_roundg kj13
               case measure => have := HK1.out; have := HJ13.out; omega
               case rel => exact ⟨(x4_1), (wrap64 (x5_1 + 1)), ((((rd_T35 l0 x13_1).f0) == 1)), (wrap64 (x13_1 + 1)), vqP, vqP, vqP, H', ⟨by have := HK1.out; have := HJ13.out; omega⟩, ⟨rwP HO_3.out⟩, ⟨rwP HO_4.out⟩, ⟨hbP1 HB.out GE153.out⟩⟩
             ·replace c33 := Bool.eq_false_iff.mpr c33
              subst c33
              have H1 : (none) = some r := by rw [if_neg (show ¬ (false = true) by decide)] at H; exact H
              clear H
              have H := H1
              clear H1
              exact absurd H (by simp)
            ·rw [if_neg c31] at H
             exact absurd H (by simp)
           ·rw [if_neg c30] at H
            exact absurd H (by simp)
          ·rw [if_neg c29] at H
           have c29b0 : (((rd_T35 l0 x13_1).f0) == 16) = false := beq_eq_false_iff_ne.mpr c29
           have c29b1 : (((rd_T35 l0 x13_1).f0) != 16) = true := bne_iff_ne.mpr c29
           have H' := Aside0.mk H
           clear H
           have hcz47_0 : wc.cell? ⟨gb153, 0, none⟩ = some (.int .i64 ((rd_T35 l0 x13_1).f0)) := (blk_cell BK153.out 0).trans rfl
           have hcz47_1 : wc.cell? ⟨gb153, 1, none⟩ = some (.string ((rd_T35 l0 x13_1).f1)) := (blk_cell BK153.out 1).trans rfl
           have hcz47_2 : wc.cell? ⟨gb153, 2, none⟩ = some (.string ((rd_T35 l0 x13_1).f2)) := (blk_cell BK153.out 2).trans rfl
           have hcz47_3 : wc.cell? ⟨gb153, 3, none⟩ = some (.bool ((rd_T35 l0 x13_1).f3.f0)) := (blk_cell BK153.out 3).trans rfl
           have hcz47_4 : wc.cell? ⟨gb153, 4, none⟩ = some (.string ((rd_T35 l0 x13_1).f3.f1)) := (blk_cell BK153.out 4).trans rfl
           have hcz47_5 : wc.cell? ⟨gb153, 5, none⟩ = some (.string ((rd_T35 l0 x13_1).f3.f2)) := (blk_cell BK153.out 5).trans rfl
           have hcz47_6 : wc.cell? ⟨gb153, 6, none⟩ = some (.bool ((rd_T35 l0 x13_1).f4)) := (blk_cell BK153.out 6).trans rfl
           have hcz47_7 : wc.cell? ⟨gb153, 7, none⟩ = some (.bool ((rd_T35 l0 x13_1).f5)) := (blk_cell BK153.out 7).trans rfl
           have hcz47_8 : wc.cell? ⟨gb153, 8, none⟩ = some (.int .i64 ((rd_T35 l0 x13_1).f6.f0)) := (blk_cell BK153.out 8).trans rfl
           have hcz47_9 : wc.cell? ⟨gb153, 9, none⟩ = some (.int .i64 ((rd_T35 l0 x13_1).f6.f1)) := (blk_cell BK153.out 9).trans rfl
           have hcz47_10 : wc.cell? ⟨gb153, 10, none⟩ = some (.int .i64 ((rd_T35 l0 x13_1).f6.f2)) := (blk_cell BK153.out 10).trans rfl
           have hcz47_11 : wc.cell? ⟨gb153, 11, none⟩ = some (.int .i64 ((rd_T35 l0 x13_1).f6.f3)) := (blk_cell BK153.out 11).trans rfl
           have hcz47_12 : wc.cell? ⟨gb153, 12, none⟩ = some (.int .i64 ((rd_T35 l0 x13_1).f7)) := (blk_cell BK153.out 12).trans rfl
           have hfz47_0 := blk_frozen BK153.out 0
           have hfz47_1 := blk_frozen BK153.out 1
           have hfz47_2 := blk_frozen BK153.out 2
           have hfz47_3 := blk_frozen BK153.out 3
           have hfz47_4 := blk_frozen BK153.out 4
           have hfz47_5 := blk_frozen BK153.out 5
           have hfz47_6 := blk_frozen BK153.out 6
           have hfz47_7 := blk_frozen BK153.out 7
           have hfz47_8 := blk_frozen BK153.out 8
           have hfz47_9 := blk_frozen BK153.out 9
           have hfz47_10 := blk_frozen BK153.out 10
           have hfz47_11 := blk_frozen BK153.out 11
           have hfz47_12 := blk_frozen BK153.out 12
           go_wp2
           repeat (go_quiet (fail); try go_wp2)
           go_roundg kj13
           case measure => have := HK1.out; have := HJ13.out; omega
           case rel => exact ⟨(x4_1), (wrap64 (x5_1 + 1)), ((((rd_T35 l0 x13_1).f0) == 1)), (wrap64 (x13_1 + 1)), vqP, vqP, vqP, H', ⟨by have := HK1.out; have := HJ13.out; omega⟩, ⟨rwP HO_3.out⟩, ⟨rwP HO_4.out⟩, ⟨hbP1 HB.out GE153.out⟩⟩
     ·rw [if_neg c6] at H
      exact absurd H (by simp)
    ·rw [if_neg c5] at H
     exact absurd H (by simp)
   ·rw [if_neg c4] at H
    have c4b0 : decide (x13_1 < (l0.length : Int)) = false := decide_eq_false c4
    clear c4
    obtain rfl := Option.some.inj H
    go_wp2
    go_ret
    exact ⟨_, by first | rfl | (simp [errW_none, errW_some] <;> rfl) | (simp [*, errW_none, errW_some] <;> rfl), by exact rwP HO_4.out, hbP0 HB.out⟩
end Go.Proofs.YthonpnaccjajcaaGreatDoor.P
