import Derived.Test.YthonpnaccjajcaaGreatDoorColourWherePx20
import Derived.Test.YthonpnaccjajcaaGreatDoorColourWherePx21
import Derived.Test.YthonpnaccjajcaaGreatDoorColourWherePx23
import Derived.Test.YthonpnaccjajcaaGreatDoorColourWherePx24
namespace Go.Proofs.YthonpnaccjajcaaGreatDoor.P
open Go.RowKit Go.Proofs.YthonpnaccjajcaaGreatDoorW.PrintWords Go.Proofs.YthonpnaccjajcaaGreatDoorW.PrintLast Go.Proofs.YthonpnaccjajcaaGreatDoorW.PrintMore Go.Proofs.YthonpnaccjajcaaGreatDoorX
attribute [local go_sem] max2_int min2_int max_two min_two max_three min_three max_four min_four
set_option linter.unusedVariables false
set_option linter.unusedSimpArgs false
mutual
def r17_Value.l0 : Nat → List (S35) → List Int → List (S35) → Int → Int → Option ((List (S35)))
 | 0, _, _, _, _, _ => none
 | k + 1, x0, x3, x4, x5, x6 => if x6 < (x0.length : Int) then (if 0 ≤ x6 then ((r17_quiet.f ((rd_T35 x0 x6).f0) ((rd_T35 x0 x6).f1) ((rd_T35 x0 x6).f2) ((rd_T35 x0 x6).f3.f0) ((rd_T35 x0 x6).f3.f1) ((rd_T35 x0 x6).f3.f2) ((rd_T35 x0 x6).f4) ((rd_T35 x0 x6).f5) ((rd_T35 x0 x6).f6.f0) ((rd_T35 x0 x6).f6.f1) ((rd_T35 x0 x6).f6.f2) ((rd_T35 x0 x6).f6.f3) ((rd_T35 x0 x6).f7)).bind fun t270 => (if t270 = true then (r17_Value.l1 k x0 x3 x4 x5 x6 (-1) ([] : List (S35))) else ((some (([(⟨(rd_T35 x0 x6).f0, (rd_T35 x0 x6).f1, (rd_T35 x0 x6).f2, (⟨(rd_T35 x0 x6).f3.f0, (rd_T35 x0 x6).f3.f1, (rd_T35 x0 x6).f3.f2⟩ : S32), (rd_T35 x0 x6).f4, (rd_T35 x0 x6).f5, (⟨(rd_T35 x0 x6).f6.f0, (rd_T35 x0 x6).f6.f1, (rd_T35 x0 x6).f6.f2, (rd_T35 x0 x6).f6.f3⟩ : S33), (rd_T35 x0 x6).f7⟩ : S35)] : List (S35)) : List (S35))).bind fun y272 => (if x4.length + y272.length < 1099511627776 then (r17_Value.l0 k x0 x3 (x4 ++ y272) x6 (wrap64 (x6 + 1))) else (none))))) else (none)) else (some x4)
def r17_Value.l1 : Nat → List (S35) → List Int → List (S35) → Int → Int → Int → List (S35) → Option ((List (S35)))
 | 0, _, _, _, _, _, _, _ => none
 | k + 1, x0, x3, x4, x5, x7, x8, x9 => if x7 < (x0.length : Int) then (if 0 ≤ x7 then ((r17_quiet.f ((rd_T35 x0 x7).f0) ((rd_T35 x0 x7).f1) ((rd_T35 x0 x7).f2) ((rd_T35 x0 x7).f3.f0) ((rd_T35 x0 x7).f3.f1) ((rd_T35 x0 x7).f3.f2) ((rd_T35 x0 x7).f4) ((rd_T35 x0 x7).f5) ((rd_T35 x0 x7).f6.f0) ((rd_T35 x0 x7).f6.f1) ((rd_T35 x0 x7).f6.f2) ((rd_T35 x0 x7).f6.f3) ((rd_T35 x0 x7).f7)).bind fun t279 => (r17_Value.j2 k x0 x3 x4 x5 x7 x8 x9 t279)) else (none)) else (none)
def r17_Value.j2 : Nat → List (S35) → List Int → List (S35) → Int → Int → Int → List (S35) → Bool → Option ((List (S35)))
 | 0, _, _, _, _, _, _, _, _ => none
 | k + 1, x0, x3, x4, x5, x7, x8, x9, x44 => if x44 = true then (if 0 ≤ x7 then (if x7 < (x0.length : Int) then (if ((rd_T35 x0 x7).f0) = 13 then (r17_Value.j3 k x0 x3 x4 x5 x7 x9 (decide (x8 < 0))) else (none)) else (none)) else (none)) else (if x8 ≥ 0 then (if 0 ≤ x8 then (if x8 < (x0.length : Int) then (r17_Value.j4 k x0 x3 x4 x5 x7 x8 x9 13 (⟨#[32]⟩ : ByteArray) (⟨#[]⟩ : ByteArray) false (⟨#[]⟩ : ByteArray) (⟨#[]⟩ : ByteArray) false false 0 0 0 0 ((rd_T35 x0 x8).f7)) else (none)) else (none)) else (none))
def r17_Value.j3 : Nat → List (S35) → List Int → List (S35) → Int → Int → List (S35) → Bool → Option ((List (S35)))
 | 0, _, _, _, _, _, _, _ => none
 | k + 1, x0, x3, x4, x5, x7, x9, x54 => if x54 = true then (if 0 ≤ x7 then (if x7 < (x0.length : Int) then (if ((rd_T35 x0 x7).f0) = 25 then (none) else (r17_Value.l1 k x0 x3 x4 x5 (wrap64 (x7 + 1)) x7 x9)) else (none)) else (none)) else (none)
def r17_Value.j4 : Nat → List (S35) → List Int → List (S35) → Int → Int → Int → List (S35) → Int → ByteArray → ByteArray → Bool → ByteArray → ByteArray → Bool → Bool → Int → Int → Int → Int → Int → Option ((List (S35)))
 | 0, _, _, _, _, _, _, _, _, _, _, _, _, _, _, _, _, _, _, _, _ => none
 | k + 1, x0, x3, x4, x5, x7, x8, x9, x286000, x286001, x286002, x286003, x286004, x286005, x286006, x286007, x286008, x286009, x286010, x286011, x286012 => if x8 ≥ 0 then (if x5 ≥ 0 then (if 0 ≤ x5 then (if x5 < (x0.length : Int) then ((r13_Line.f ((rd_T35 x0 x5).f0) ((rd_T35 x0 x5).f1) ((rd_T35 x0 x5).f2) ((rd_T35 x0 x5).f3.f0) ((rd_T35 x0 x5).f3.f1) ((rd_T35 x0 x5).f3.f2) ((rd_T35 x0 x5).f4) ((rd_T35 x0 x5).f5) ((rd_T35 x0 x5).f6.f0) ((rd_T35 x0 x5).f6.f1) ((rd_T35 x0 x5).f6.f2) ((rd_T35 x0 x5).f6.f3) ((rd_T35 x0 x5).f7)).bind fun t288 => (r17_Value.j5 k x0 x3 x4 x5 x7 x8 x9 t288 x286000 x286001 x286002 x286003 x286004 x286005 x286006 x286007 x286008 x286009 x286010 x286011 x286012)) else (none)) else (none)) else (none)) else (none)
def r17_Value.j5 : Nat → List (S35) → List Int → List (S35) → Int → Int → Int → List (S35) → Bool → Int → ByteArray → ByteArray → Bool → ByteArray → ByteArray → Bool → Bool → Int → Int → Int → Int → Int → Option ((List (S35)))
 | 0, _, _, _, _, _, _, _, _, _, _, _, _, _, _, _, _, _, _, _, _, _ => none
 | k + 1, x0, x3, x4, x5, x7, x8, x9, x91, x286000, x286001, x286002, x286003, x286004, x286005, x286006, x286007, x286008, x286009, x286010, x286011, x286012 => if x91 = true then (none) else (if x8 ≥ 0 then ((r17_before.f k x0 x3 x5).bind fun t298 => (if t298 = true then (none) else ((r17_after.f k x0 x3 x7).bind fun t302 => (if t302 = true then (none) else (if x4.length + x9.length < 1099511627776 then ((some (x4 ++ x9 : List (S35))).bind fun y306 => ((some (([(⟨x286000, x286001, x286002, (⟨x286003, x286004, x286005⟩ : S32), x286006, x286007, (⟨x286008, x286009, x286010, x286011⟩ : S33), x286012⟩ : S35)] : List (S35)) : List (S35))).bind fun y309 => (if y306.length + y309.length < 1099511627776 then (r17_Value.l0 k x0 x3 (y306 ++ y309) x5 x7) else (none)))) else (none)))))) else (none))
end
def r17_Value.f (k : Nat) (l0 : List (S35)) : Option ((List (S35))) := (r17_Colons.f k l0).bind fun t266 => (r17_Value.l0 k l0 t266 ([] : List (S35)) (-1) 0)
set_option maxHeartbeats 8000000 in
set_option maxRecDepth 100000 in
theorem r17_Value.calls (k : Nat) (A0 : Option Addr) (c0 : Nat) (l0 : List (S35)) (r : List (S35)) (w : World) (hr0 : Kd.C k35 w A0 l0.length l0) (hc0 : l0.length ≤ c0) (h : r17_Value.f k l0 = some r) :
  Calls Tryz.prog 6 #[.slice A0 l0.length c0] w fun e w' => ∃ v0_ : Value, e = .returned (v0_) ∧ Kd.R k35 35 w' w.heap.size (fun _ => True) v0_ r ∧ Below w.heap.size w w' := by
 have hu35 := Tryz.underlying35
 have HR0 := Aside0.mk hr0
 have HC0 := Aside0.mk hc0
 clear hr0 hc0
 have HB := Aside0.mk (Below.refl w.heap.size w)
 have H : ((r17_Colons.f k l0).bind fun t266 => (r17_Value.l0 k l0 t266 ([] : List (S35)) (-1) 0)) = some r := h
 clear h
 replace H := Option.bind_eq_some_iff.mp H
 obtain ⟨t266, A20, H⟩ := H
 replace H : (r17_Value.l0 k l0 t266 ([] : List (S35)) (-1) 0) = some r := H
 have A2 := Aside0.mk A20
 clear A20
 have H' := Aside0.mk H
 clear H
 go_enter Tryz.func6, Tryz.ntmps6
 go_wp2_with (first | ((with_reducible refine gate_callee (f := 17) rfl ?_); refine goesL_ (some 12) rfl rfl Tryz.func17 (by kernel_rfl) rfl #[.slice A0 l0.length c0] rfl agP ?_; (with_reducible refine (r17_Colons.calls k _ _ l0 t266 _ ?side1 ?side2 A2.out).mono ?_); (case side1 => repeat (first | exact HR0.out | (with_reducible refine Kd.C_alloc ?_ _) | (with_reducible refine Kd.C_drewN ?_ _) | (with_reducible refine Kd.C_drew ?_))); (case side2 => exact HC0.out); rintro e w3 ⟨v267, rfl, ho0, hb⟩; refine ⟨_, rfl, ?_⟩; have n0_ := Aside0.mk (Kd.R_lower ho0 (below_size (hbP0 HB.out))); have n1_ := Aside0.mk (below_step (hbP0 HB.out) hb); clear HB; have HO268 := n0_; have HB := n1_; clear n0_ n1_; (try clear hb); (try clear hb2); (try clear hk); (try clear hi); (try clear ho0)))
 go_loopg [4, 5, 6] k (fun kq v4 v5 v6 w' => ∃ (x4_1 : List (S35)) (x5_1 : Int) (x6_1 : Int), v5 = .int .i64 x5_1 ∧ v6 = .int .i64 x6_1 ∧ Aside0 (r17_Value.l0 kq l0 t266 x4_1 x5_1 x6_1 = some r) ∧ Aside0 (kq ≤ k) ∧ Aside0 (Kd.R (Kd.int .i64) 3 w' w.heap.size (fun _ => True) v267 t266) ∧ Aside0 (Kd.R k35 35 w' w.heap.size (fun _ => True) v4 x4_1) ∧ Aside0 (Below w.heap.size w w'))
 case atStart => exact ⟨(([] : List (S35))), ((-1)), (0), vqP, vqP, H', ⟨Nat.le_refl _⟩, ⟨rwP HO268.out⟩, ⟨by first | exact Kd.R_nil _ _ _ _ _ | exact Kd.N_nil _ _ _ _ _ | exact Kd.V_nil _ _ _ _ _ | exact Kd.Q_nil _ _ _ _ _ | exact Kd.S_nil _ _ _ _ _⟩, ⟨hbP0 HB.out⟩⟩
 case round =>
  clear H'
  obtain ⟨x4_1, x5_1, x6_1, rfl, rfl, HA, HK1, HO_3, HO_4, HB⟩ := hrel
  cases gk with
  | zero => exact absurd HA.out (by simp [r17_Value.l0])
  | succ k1 =>
   have H := HA.out
   clear HA
   simp only [r17_Value.l0] at H
   by_cases c4 : x6_1 < (l0.length : Int)
   ·rw [if_pos c4] at H
    have c4b0 : decide (x6_1 < (l0.length : Int)) = true := decide_eq_true c4
    clear c4
    by_cases c5 : 0 ≤ x6_1
    ·rw [if_pos c5] at H
     have c5b0 : decide (0 ≤ x6_1) = true := decide_eq_true c5
     clear c5
     replace H := Option.bind_eq_some_iff.mp H
     obtain ⟨t270, A60, H⟩ := H
     replace H : (if t270 = true then (r17_Value.l1 k1 l0 t266 x4_1 x5_1 x6_1 (-1) ([] : List (S35))) else ((some (([(⟨(rd_T35 l0 x6_1).f0, (rd_T35 l0 x6_1).f1, (rd_T35 l0 x6_1).f2, (⟨(rd_T35 l0 x6_1).f3.f0, (rd_T35 l0 x6_1).f3.f1, (rd_T35 l0 x6_1).f3.f2⟩ : S32), (rd_T35 l0 x6_1).f4, (rd_T35 l0 x6_1).f5, (⟨(rd_T35 l0 x6_1).f6.f0, (rd_T35 l0 x6_1).f6.f1, (rd_T35 l0 x6_1).f6.f2, (rd_T35 l0 x6_1).f6.f3⟩ : S33), (rd_T35 l0 x6_1).f7⟩ : S35)] : List (S35)) : List (S35))).bind fun y272 => (if x4_1.length + y272.length < 1099511627776 then (r17_Value.l0 k1 l0 t266 (x4_1 ++ y272) x6_1 (wrap64 (x6_1 + 1))) else (none)))) = some r := H
     have A6 := Aside0.mk A60
     clear A60
     by_cases c7 : t270 = true
     ·subst c7
      have H1 : (r17_Value.l1 k1 l0 t266 x4_1 x5_1 x6_1 (-1) ([] : List (S35))) = some r := by rw [if_pos rfl] at H; exact H
      clear H
      have H := H1
      clear H1
      have H' := Aside0.mk H
      clear H
      have p269 : 0 ≤ (x6_1 : Int) := of_decide_eq_true (by first | (with_reducible assumption) | assumption)
      have q269 : x6_1 < (l0.length : Int) := of_decide_eq_true (by first | (with_reducible assumption) | assumption)
      obtain ⟨ad269, e269, hx269_0, hx269_1, hx269_2, hx269_3, hx269_4, hx269_5, hx269_6, hx269_7, hx269_8, hx269_9, hx269_10, hx269_11, hx269_12⟩ := at_T35 HR0.out x6_1 p269 q269
      cases e269
      replace hx269_0 := clB HB.out hx269_0
      replace hx269_1 := clB HB.out hx269_1
      replace hx269_2 := clB HB.out hx269_2
      replace hx269_3 := clB HB.out hx269_3
      replace hx269_4 := clB HB.out hx269_4
      replace hx269_5 := clB HB.out hx269_5
      replace hx269_6 := clB HB.out hx269_6
      replace hx269_7 := clB HB.out hx269_7
      replace hx269_8 := clB HB.out hx269_8
      replace hx269_9 := clB HB.out hx269_9
      replace hx269_10 := clB HB.out hx269_10
      replace hx269_11 := clB HB.out hx269_11
      replace hx269_12 := clB HB.out hx269_12
      replace p269 := eq_true p269
      replace q269 := eq_true q269
      go_wp2_with (first | ((with_reducible refine gate_callee (f := 18) rfl ?_); refine goesL_ (some 21) rfl rfl Tryz.func18 (by kernel_rfl) rfl #[.agg #[.int .i64 ((rd_T35 l0 x6_1).f0), .string ((rd_T35 l0 x6_1).f1), .string ((rd_T35 l0 x6_1).f2), .bool ((rd_T35 l0 x6_1).f3.f0), .string ((rd_T35 l0 x6_1).f3.f1), .string ((rd_T35 l0 x6_1).f3.f2), .bool ((rd_T35 l0 x6_1).f4), .bool ((rd_T35 l0 x6_1).f5), .int .i64 ((rd_T35 l0 x6_1).f6.f0), .int .i64 ((rd_T35 l0 x6_1).f6.f1), .int .i64 ((rd_T35 l0 x6_1).f6.f2), .int .i64 ((rd_T35 l0 x6_1).f6.f3), .int .i64 ((rd_T35 l0 x6_1).f7)]] rfl agP ?_; (with_reducible refine (r17_quiet.calls ((rd_T35 l0 x6_1).f0) ((rd_T35 l0 x6_1).f1) ((rd_T35 l0 x6_1).f2) ((rd_T35 l0 x6_1).f3.f0) ((rd_T35 l0 x6_1).f3.f1) ((rd_T35 l0 x6_1).f3.f2) ((rd_T35 l0 x6_1).f4) ((rd_T35 l0 x6_1).f5) ((rd_T35 l0 x6_1).f6.f0) ((rd_T35 l0 x6_1).f6.f1) ((rd_T35 l0 x6_1).f6.f2) ((rd_T35 l0 x6_1).f6.f3) ((rd_T35 l0 x6_1).f7) true _ A6.out).mono ?_); rintro e w8 ⟨rfl, hb⟩; refine ⟨_, rfl, ?_⟩; have n0_ := Aside0.mk (Kd.R_below (rwP HO_3.out) hb); have n1_ := Aside0.mk (Kd.R_below (rwP HO_4.out) hb); have n2_ := Aside0.mk (below_step (hbP0 HB.out) hb); clear HO_3; clear HO_4; clear HB; have HO_3 := n0_; have HO_4 := n1_; have HB := n2_; clear n0_ n1_ n2_; (try clear hb); (try clear hb2); (try clear hk); (try clear hi)))
      go_loopg [7, 8, 9] k1 (fun kq v7 v8 v9 w' => ∃ (x7_2 : Int) (x8_2 : Int) (x9_2 : List (S35)), v7 = .int .i64 x7_2 ∧ v8 = .int .i64 x8_2 ∧ Aside0 (r17_Value.l1 kq l0 t266 x4_1 x5_1 x7_2 x8_2 x9_2 = some r) ∧ Aside0 (kq ≤ k1) ∧ Aside0 (Kd.R (Kd.int .i64) 3 w' w.heap.size (fun _ => True) v267 t266) ∧ Aside0 (Kd.R k35 35 w' w.heap.size (fun k_ => some k_ ≠ (v9 : Value).ownBlock) u4 x4_1) ∧ Aside0 (Kd.R k35 35 w' w.heap.size (fun k_ => some k_ ≠ (u4 : Value).ownBlock) v9 x9_2) ∧ Aside0 (Below w.heap.size w w'))
      case atStart => exact ⟨(x6_1), ((-1)), (([] : List (S35))), vqP, vqP, H', ⟨Nat.le_refl _⟩, ⟨rwP HO_3.out⟩, ⟨by (with_reducible repeat (first | apply Kd.R_alloc | apply Kd.R_drewN | apply Kd.R_drew)); exact Kd.R_mono HO_4.out (fun _ hk => (by simp [Value.ownBlock]))⟩, ⟨by first | exact Kd.R_nil _ _ _ _ _ | exact Kd.N_nil _ _ _ _ _ | exact Kd.V_nil _ _ _ _ _ | exact Kd.Q_nil _ _ _ _ _ | exact Kd.S_nil _ _ _ _ _⟩, ⟨hbP0 HB.out⟩⟩
      case round =>
       clear H'
       obtain ⟨x7_2, x8_2, x9_2, rfl, rfl, HA, HK2, HO_3, HO_4, HO_9, HB⟩ := hrel
       cases gk with
       | zero => exact absurd HA.out (by simp [r17_Value.l1])
       | succ k2 =>
        have H := HA.out
        clear HA
        simp only [r17_Value.l1] at H
        have HC9 := Aside0.mk H
        clear H
        go_upto_region 13 with (fail)
        go_cut [44] (fun v44 wc => ∃ (kq : Nat) (x44_8 : Bool), v44 = .bool x44_8 ∧ Aside0 (r17_Value.j2 kq l0 t266 x4_1 x5_1 x7_2 x8_2 x9_2 x44_8 = some r) ∧ Aside0 (kq ≤ k2) ∧ Aside0 (Kd.R (Kd.int .i64) 3 wc w.heap.size (fun _ => True) v267 t266) ∧ Aside0 (Kd.R k35 35 wc w.heap.size (fun k_ => some k_ ≠ (u9 : Value).ownBlock) u4 x4_1) ∧ Aside0 (Kd.R k35 35 wc w.heap.size (fun k_ => some k_ ≠ (u4 : Value).ownBlock) u9 x9_2) ∧ Aside0 (Below w.heap.size w wc))
        case first => as_aux_lemma =>
         have H := HC9.out
         clear HC9
         by_cases c10 : x7_2 < (l0.length : Int)
         ·rw [if_pos c10] at H
          have c10b0 : decide (x7_2 < (l0.length : Int)) = true := decide_eq_true c10
          clear c10
          (first | rw [c10b0] | (simp only [i64_w, i32_w]; rw [c10b0]) | skip)
          by_cases c11 : 0 ≤ x7_2
          ·rw [if_pos c11] at H
           have c11b0 : decide (0 ≤ x7_2) = true := decide_eq_true c11
           clear c11
           replace H := Option.bind_eq_some_iff.mp H
           obtain ⟨t279, A120, H⟩ := H
           replace H : (r17_Value.j2 k2 l0 t266 x4_1 x5_1 x7_2 x8_2 x9_2 t279) = some r := H
           have A12 := Aside0.mk A120
           clear A120
           have H' := Aside0.mk H
           clear H
           have p278 : 0 ≤ (x7_2 : Int) := of_decide_eq_true (by first | (with_reducible assumption) | assumption)
           have q278 : x7_2 < (l0.length : Int) := of_decide_eq_true (by first | (with_reducible assumption) | assumption)
           obtain ⟨ad278, e278, hx278_0, hx278_1, hx278_2, hx278_3, hx278_4, hx278_5, hx278_6, hx278_7, hx278_8, hx278_9, hx278_10, hx278_11, hx278_12⟩ := at_T35 HR0.out x7_2 p278 q278
           obtain rfl : ad269 = ad278 := (by injection e278)
           replace hx278_0 := clB HB.out hx278_0
           replace hx278_1 := clB HB.out hx278_1
           replace hx278_2 := clB HB.out hx278_2
           replace hx278_3 := clB HB.out hx278_3
           replace hx278_4 := clB HB.out hx278_4
           replace hx278_5 := clB HB.out hx278_5
           replace hx278_6 := clB HB.out hx278_6
           replace hx278_7 := clB HB.out hx278_7
           replace hx278_8 := clB HB.out hx278_8
           replace hx278_9 := clB HB.out hx278_9
           replace hx278_10 := clB HB.out hx278_10
           replace hx278_11 := clB HB.out hx278_11
           replace hx278_12 := clB HB.out hx278_12
           replace p278 := eq_true p278
           replace q278 := eq_true q278
           go_wp2_with (first | (go_at_call 18; (with_reducible refine (r17_quiet.calls ((rd_T35 l0 x7_2).f0) ((rd_T35 l0 x7_2).f1) ((rd_T35 l0 x7_2).f2) ((rd_T35 l0 x7_2).f3.f0) ((rd_T35 l0 x7_2).f3.f1) ((rd_T35 l0 x7_2).f3.f2) ((rd_T35 l0 x7_2).f4) ((rd_T35 l0 x7_2).f5) ((rd_T35 l0 x7_2).f6.f0) ((rd_T35 l0 x7_2).f6.f1) ((rd_T35 l0 x7_2).f6.f2) ((rd_T35 l0 x7_2).f6.f3) ((rd_T35 l0 x7_2).f7) t279 _ A12.out).mono ?_); rintro e w13 ⟨rfl, hb⟩; have n0_ := Aside0.mk (Kd.R_below (rwP HO_3.out) hb); have n1_ := Aside0.mk (Kd.R_below (rwP HO_4.out) hb); have n2_ := Aside0.mk (Kd.R_below (rwP HO_9.out) hb); have n3_ := Aside0.mk (below_step (hbP0 HB.out) hb); clear HO_3; clear HO_4; clear HO_9; clear HB; have HO_3 := n0_; have HO_4 := n1_; have HO_9 := n2_; have HB := n3_; clear n0_ n1_ n2_ n3_; (try clear hb); (try clear hb2); (try clear hk); (try clear hi)))
           go_meet
           case rel => exact ⟨_, (t279), vqP, H', ⟨by have := HK1.out; have := HK2.out; first | omega | exact Nat.le_refl _⟩, ⟨rwP HO_3.out⟩, ⟨rwP HO_4.out⟩, ⟨rwP HO_9.out⟩, ⟨hbP0 HB.out⟩⟩
          ·rw [if_neg c11] at H
           exact absurd H (by simp)
         ·rw [if_neg c10] at H
          exact absurd H (by simp)
        case rest =>
         clear HC9
         obtain ⟨kq, x44_8, rfl, HA, HJ8, HO_3, HO_4, HO_9, HB⟩ := hcut
         cases kq with
         | zero => exact absurd HA.out (by simp [r17_Value.j2])
         | succ kj8 =>
          have H := HA.out
          clear HA
          simp only [r17_Value.j2] at H
          by_cases c14 : x44_8 = true
          ·subst c14
           have H1 : (if 0 ≤ x7_2 then (if x7_2 < (l0.length : Int) then (if ((rd_T35 l0 x7_2).f0) = 13 then (r17_Value.j3 kj8 l0 t266 x4_1 x5_1 x7_2 x9_2 (decide (x8_2 < 0))) else (none)) else (none)) else (none)) = some r := by rw [if_pos rfl] at H; exact H
           clear H
           have H := H1
           clear H1
           have HC15 := Aside0.mk H
           clear H
           go_upto_region 14 with (fail)
           go_cut [54] (fun v54 wc => ∃ (kq : Nat) (x54_14 : Bool), v54 = .bool x54_14 ∧ Aside0 (r17_Value.j3 kq l0 t266 x4_1 x5_1 x7_2 x9_2 x54_14 = some r) ∧ Aside0 (kq ≤ kj8) ∧ Aside0 (Kd.R (Kd.int .i64) 3 wc w.heap.size (fun _ => True) v267 t266) ∧ Aside0 (Kd.R k35 35 wc w.heap.size (fun k_ => some k_ ≠ (u9 : Value).ownBlock) u4 x4_1) ∧ Aside0 (Kd.R k35 35 wc w.heap.size (fun k_ => some k_ ≠ (u4 : Value).ownBlock) u9 x9_2) ∧ Aside0 (Below w.heap.size w wc))
           case first => as_aux_lemma =>
            have H := HC15.out
            clear HC15
            by_cases c16 : 0 ≤ x7_2
            ·rw [if_pos c16] at H
             have c16b0 : decide (0 ≤ x7_2) = true := decide_eq_true c16
             clear c16
             (first | rw [c16b0] | (simp only [i64_w, i32_w]; rw [c16b0]) | skip)
             by_cases c17 : x7_2 < (l0.length : Int)
             ·rw [if_pos c17] at H
              have c17b0 : decide (x7_2 < (l0.length : Int)) = true := decide_eq_true c17
              clear c17
              by_cases c18 : ((rd_T35 l0 x7_2).f0) = 13
              ·rw [if_pos c18] at H
               have c18b0 : (((rd_T35 l0 x7_2).f0) == 13) = true := beq_iff_eq.mpr c18
               have c18b1 : (((rd_T35 l0 x7_2).f0) != 13) = false := bne_eq_false_iff_eq.mpr c18
               clear c18
               have H' := Aside0.mk H
               clear H
               have p280 : 0 ≤ (x7_2 : Int) := of_decide_eq_true (by first | (with_reducible assumption) | assumption)
               have q280 : x7_2 < (l0.length : Int) := of_decide_eq_true (by first | (with_reducible assumption) | assumption)
               obtain ⟨ad280, e280, hx280_0, hx280_1, hx280_2, hx280_3, hx280_4, hx280_5, hx280_6, hx280_7, hx280_8, hx280_9, hx280_10, hx280_11, hx280_12⟩ := at_T35 HR0.out x7_2 p280 q280
               obtain rfl : ad269 = ad280 := (by injection e280)
               replace hx280_0 := clB HB.out hx280_0
               replace hx280_1 := clB HB.out hx280_1
               replace hx280_2 := clB HB.out hx280_2
               replace hx280_3 := clB HB.out hx280_3
               replace hx280_4 := clB HB.out hx280_4
               replace hx280_5 := clB HB.out hx280_5
               replace hx280_6 := clB HB.out hx280_6
               replace hx280_7 := clB HB.out hx280_7
               replace hx280_8 := clB HB.out hx280_8
               replace hx280_9 := clB HB.out hx280_9
               replace hx280_10 := clB HB.out hx280_10
               replace hx280_11 := clB HB.out hx280_11
               replace hx280_12 := clB HB.out hx280_12
               replace p280 := eq_true p280
               replace q280 := eq_true q280
               go_wp2
               go_meet
               case rel => exact ⟨_, (decide (x8_2 < 0)), vqP, H', ⟨by have := HK1.out; have := HK2.out; have := HJ8.out; first | omega | exact Nat.le_refl _⟩, ⟨rwP HO_3.out⟩, ⟨rwP HO_4.out⟩, ⟨rwP HO_9.out⟩, ⟨hbP0 HB.out⟩⟩
              ·rw [if_neg c18] at H
               exact absurd H (by simp)
             ·rw [if_neg c17] at H
              exact absurd H (by simp)
            ·rw [if_neg c16] at H
             exact absurd H (by simp)
           case rest =>
            clear HC15
            obtain ⟨kq, x54_14, rfl, HA, HJ14, HO_3, HO_4, HO_9, HB⟩ := hcut
            cases kq with
            | zero => exact absurd HA.out (by simp [r17_Value.j3])
            | succ kj14 =>
             have H := HA.out
             clear HA
             simp only [r17_Value.j3] at H
             by_cases c19 : x54_14 = true
             ·subst c19
              have H1 : (if 0 ≤ x7_2 then (if x7_2 < (l0.length : Int) then (if ((rd_T35 l0 x7_2).f0) = 25 then (none) else (r17_Value.l1 kj14 l0 t266 x4_1 x5_1 (wrap64 (x7_2 + 1)) x7_2 x9_2)) else (none)) else (none)) = some r := by rw [if_pos rfl] at H; exact H
              clear H
              have H := H1
              clear H1
              by_cases c20 : 0 ≤ x7_2
              ·rw [if_pos c20] at H
               have c20b0 : decide (0 ≤ x7_2) = true := decide_eq_true c20
               clear c20
               by_cases c21 : x7_2 < (l0.length : Int)
               ·rw [if_pos c21] at H
                have c21b0 : decide (x7_2 < (l0.length : Int)) = true := decide_eq_true c21
                clear c21
                by_cases c22 : ((rd_T35 l0 x7_2).f0) = 25
                ·rw [if_pos c22] at H
                 exact absurd H (by simp)
                ·rw [if_neg c22] at H
                 have c22b0 : (((rd_T35 l0 x7_2).f0) == 25) = false := beq_eq_false_iff_ne.mpr c22
                 have c22b1 : (((rd_T35 l0 x7_2).f0) != 25) = true := bne_iff_ne.mpr c22
                 have H' := Aside0.mk H
                 clear H
                 have p281 : 0 ≤ (x7_2 : Int) := of_decide_eq_true (by first | (with_reducible assumption) | assumption)
                 have q281 : x7_2 < (l0.length : Int) := of_decide_eq_true (by first | (with_reducible assumption) | assumption)
                 obtain ⟨ad281, e281, hx281_0, hx281_1, hx281_2, hx281_3, hx281_4, hx281_5, hx281_6, hx281_7, hx281_8, hx281_9, hx281_10, hx281_11, hx281_12⟩ := at_T35 HR0.out x7_2 p281 q281
                 obtain rfl : ad269 = ad281 := (by injection e281)
                 replace hx281_0 := clB HB.out hx281_0
                 replace hx281_1 := clB HB.out hx281_1
                 replace hx281_2 := clB HB.out hx281_2
                 replace hx281_3 := clB HB.out hx281_3
                 replace hx281_4 := clB HB.out hx281_4
                 replace hx281_5 := clB HB.out hx281_5
                 replace hx281_6 := clB HB.out hx281_6
                 replace hx281_7 := clB HB.out hx281_7
                 replace hx281_8 := clB HB.out hx281_8
                 replace hx281_9 := clB HB.out hx281_9
                 replace hx281_10 := clB HB.out hx281_10
                 replace hx281_11 := clB HB.out hx281_11
                 replace hx281_12 := clB HB.out hx281_12
                 replace p281 := eq_true p281
                 replace q281 := eq_true q281
                 go_wp2
                 go_roundg kj14
                 case measure => have := HK1.out; have := HK2.out; have := HJ8.out; have := HJ14.out; omega
                 case rel => exact ⟨(wrap64 (x7_2 + 1)), (x7_2), (x9_2), vqP, vqP, H', ⟨by have := HK1.out; have := HK2.out; have := HJ8.out; have := HJ14.out; omega⟩, ⟨rwP HO_3.out⟩, ⟨rwP HO_4.out⟩, ⟨rwP HO_9.out⟩, ⟨hbP0 HB.out⟩⟩
               ·rw [if_neg c21] at H
                exact absurd H (by simp)
              ·rw [if_neg c20] at H
               exact absurd H (by simp)
             ·replace c19 := Bool.eq_false_iff.mpr c19
              subst c19
              have H1 : (none) = some r := by rw [if_neg (show ¬ (false = true) by decide)] at H; exact H
              clear H
              have H := H1
              clear H1
              exact absurd H (by simp)
          ·replace c14 := Bool.eq_false_iff.mpr c14
           subst c14
           have H1 : (if x8_2 ≥ 0 then (if 0 ≤ x8_2 then (if x8_2 < (l0.length : Int) then (r17_Value.j4 kj8 l0 t266 x4_1 x5_1 x7_2 x8_2 x9_2 13 (⟨#[32]⟩ : ByteArray) (⟨#[]⟩ : ByteArray) false (⟨#[]⟩ : ByteArray) (⟨#[]⟩ : ByteArray) false false 0 0 0 0 ((rd_T35 l0 x8_2).f7)) else (none)) else (none)) else (none)) = some r := by rw [if_neg (show ¬ (false = true) by decide)] at H; exact H
           clear H
           have H := H1
           clear H1
           have HC23 := Aside0.mk H
           clear H
           go_upto_if 81 with (first | ((with_reducible refine gate_dst (N := 10) rfl ?_); refine box_event ?hg (N := 10) ?hd (cs := #[.int .i64 0, .string (⟨#[]⟩ : ByteArray), .string (⟨#[]⟩ : ByteArray), .bool false, .string (⟨#[]⟩ : ByteArray), .string (⟨#[]⟩ : ByteArray), .bool false, .bool false, .int .i64 0, .int .i64 0, .int .i64 0, .int .i64 0, .int .i64 0]) (t := 35) ?hr ?_; (case hd => rfl); (case hg => rfl); (case hr => first | (go_simp; done) | (go_simp; rfl)); intro gb285 hg w24 hbox hb; have n0_ := Aside0.mk (Kd.R_below (rwP HO_3.out) hb); have n1_ := Aside0.mk (Kd.R_below (Kd.R_elderB (rwP HO_4.out) gb285 (Nat.le_of_eq hg.symm)) hb); have n2_ := Aside0.mk (Kd.R_below (Kd.R_elderB (rwP HO_9.out) gb285 (Nat.le_of_eq hg.symm)) hb); have n3_ := Aside0.mk (below_step (hbP0 HB.out) hb); have n4_ := Aside0.mk (hbox); have n5_ := Aside0.mk ((by rw [hg]; exact (below_size (hbP0 HB.out)) : w.heap.size ≤ gb285)); have n6_ := Aside0.mk ((by rw [hg]; exact (below_size (hbP0 HB.out)) : w.heap.size ≤ gb285)); clear HO_3; clear HO_4; clear HO_9; clear HB; have HO_3 := n0_; have HO_4 := n1_; have HO_9 := n2_; have HB := n3_; have BK285 := n4_; have GW285 := n5_; have GE285 := n6_; clear n0_ n1_ n2_ n3_ n4_ n5_ n6_; clear hb hbox hg; have hcz25_0 : w24.cell? ⟨gb285, 0, none⟩ = some (.int .i64 0) := (blk_cell BK285.out 0).trans rfl; have hcz25_1 : w24.cell? ⟨gb285, 1, none⟩ = some (.string (⟨#[]⟩ : ByteArray)) := (blk_cell BK285.out 1).trans rfl; have hcz25_2 : w24.cell? ⟨gb285, 2, none⟩ = some (.string (⟨#[]⟩ : ByteArray)) := (blk_cell BK285.out 2).trans rfl; have hcz25_3 : w24.cell? ⟨gb285, 3, none⟩ = some (.bool false) := (blk_cell BK285.out 3).trans rfl; have hcz25_4 : w24.cell? ⟨gb285, 4, none⟩ = some (.string (⟨#[]⟩ : ByteArray)) := (blk_cell BK285.out 4).trans rfl; have hcz25_5 : w24.cell? ⟨gb285, 5, none⟩ = some (.string (⟨#[]⟩ : ByteArray)) := (blk_cell BK285.out 5).trans rfl; have hcz25_6 : w24.cell? ⟨gb285, 6, none⟩ = some (.bool false) := (blk_cell BK285.out 6).trans rfl; have hcz25_7 : w24.cell? ⟨gb285, 7, none⟩ = some (.bool false) := (blk_cell BK285.out 7).trans rfl; have hcz25_8 : w24.cell? ⟨gb285, 8, none⟩ = some (.int .i64 0) := (blk_cell BK285.out 8).trans rfl; have hcz25_9 : w24.cell? ⟨gb285, 9, none⟩ = some (.int .i64 0) := (blk_cell BK285.out 9).trans rfl; have hcz25_10 : w24.cell? ⟨gb285, 10, none⟩ = some (.int .i64 0) := (blk_cell BK285.out 10).trans rfl; have hcz25_11 : w24.cell? ⟨gb285, 11, none⟩ = some (.int .i64 0) := (blk_cell BK285.out 11).trans rfl; have hcz25_12 : w24.cell? ⟨gb285, 12, none⟩ = some (.int .i64 0) := (blk_cell BK285.out 12).trans rfl; have hfz25_0 := blk_frozen BK285.out 0; have hfz25_1 := blk_frozen BK285.out 1; have hfz25_2 := blk_frozen BK285.out 2; have hfz25_3 := blk_frozen BK285.out 3; have hfz25_4 := blk_frozen BK285.out 4; have hfz25_5 := blk_frozen BK285.out 5; have hfz25_6 := blk_frozen BK285.out 6; have hfz25_7 := blk_frozen BK285.out 7; have hfz25_8 := blk_frozen BK285.out 8; have hfz25_9 := blk_frozen BK285.out 9; have hfz25_10 := blk_frozen BK285.out 10; have hfz25_11 := blk_frozen BK285.out 11; have hfz25_12 := blk_frozen BK285.out 12) | ((with_reducible refine gate_store (t := 35) (p := 10) rfl ?_); refine store_all13 (t := 35) (p := 10) (v := ?vo_w26) gb285 (.int .i64 13) (.string (⟨#[32]⟩ : ByteArray)) (.string (⟨#[]⟩ : ByteArray)) (.bool false) (.string (⟨#[]⟩ : ByteArray)) (.string (⟨#[]⟩ : ByteArray)) (.bool false) (.bool false) (.int .i64 0) (.int .i64 0) (.int .i64 0) (.int .i64 0) (.int .i64 0) ?hg ?ho ?hn (bkP BK285.out) ?hx ?hy ?hi ?h1 ?_; (case ho => rfl); (case hg => rfl); (case hn => rfl); (case hx => first | rfl | (go_simp; done) | (go_simp; rfl)); (case hy => first | with_reducible rfl | (go_simp; done) | (go_simp; rfl)); (case hi => kernel_rfl); (case h1 => rfl); intro w26 hw; have n0_ : Aside0 (Kd.R (Kd.int .i64) 3 w26 w.heap.size (fun _ => True) v267 t266) := ⟨(by rw [hw]; exact (by (with_reducible repeat (first | apply Kd.R_alloc | apply Kd.R_drewN | apply Kd.R_drew)); exact Kd.R_mono (Kd.R_far (p := ⟨gb285, 12, none⟩) (Kd.R_far (p := ⟨gb285, 11, none⟩) (Kd.R_far (p := ⟨gb285, 10, none⟩) (Kd.R_far (p := ⟨gb285, 9, none⟩) (Kd.R_far (p := ⟨gb285, 8, none⟩) (Kd.R_far (p := ⟨gb285, 7, none⟩) (Kd.R_far (p := ⟨gb285, 6, none⟩) (Kd.R_far (p := ⟨gb285, 5, none⟩) (Kd.R_far (p := ⟨gb285, 4, none⟩) (Kd.R_far (p := ⟨gb285, 3, none⟩) (Kd.R_far (p := ⟨gb285, 2, none⟩) (Kd.R_far (p := ⟨gb285, 1, none⟩) (Kd.R_far (p := ⟨gb285, 0, none⟩) (Kd.R_types HO_3.out BK285.out (by decide)) (fun _ hk => hk.2) (.int .i64 13)) (fun _ hk => hk.2) (.string (⟨#[32]⟩ : ByteArray))) (fun _ hk => hk.2) (.string (⟨#[]⟩ : ByteArray))) (fun _ hk => hk.2) (.bool false)) (fun _ hk => hk.2) (.string (⟨#[]⟩ : ByteArray))) (fun _ hk => hk.2) (.string (⟨#[]⟩ : ByteArray))) (fun _ hk => hk.2) (.bool false)) (fun _ hk => hk.2) (.bool false)) (fun _ hk => hk.2) (.int .i64 0)) (fun _ hk => hk.2) (.int .i64 0)) (fun _ hk => hk.2) (.int .i64 0)) (fun _ hk => hk.2) (.int .i64 0)) (fun _ hk => hk.2) (.int .i64 0)) (fun _ hk => trivial)))⟩; have n1_ : Aside0 (Kd.R k35 35 w26 w.heap.size (fun k_ => some k_ ≠ (u9 : Value).ownBlock ∧ k_ ≠ gb285) u4 x4_1) := ⟨(by rw [hw]; exact (by (with_reducible repeat (first | apply Kd.R_alloc | apply Kd.R_drewN | apply Kd.R_drew)); exact Kd.R_mono (Kd.R_far (p := ⟨gb285, 12, none⟩) (Kd.R_far (p := ⟨gb285, 11, none⟩) (Kd.R_far (p := ⟨gb285, 10, none⟩) (Kd.R_far (p := ⟨gb285, 9, none⟩) (Kd.R_far (p := ⟨gb285, 8, none⟩) (Kd.R_far (p := ⟨gb285, 7, none⟩) (Kd.R_far (p := ⟨gb285, 6, none⟩) (Kd.R_far (p := ⟨gb285, 5, none⟩) (Kd.R_far (p := ⟨gb285, 4, none⟩) (Kd.R_far (p := ⟨gb285, 3, none⟩) (Kd.R_far (p := ⟨gb285, 2, none⟩) (Kd.R_far (p := ⟨gb285, 1, none⟩) (Kd.R_far (p := ⟨gb285, 0, none⟩) (Kd.R_mono HO_4.out (fun k_ hk => (⟨hk, hk.2⟩ : _ ∧ k_ ≠ gb285))) (fun _ hk => hk.2) (.int .i64 13)) (fun _ hk => hk.2) (.string (⟨#[32]⟩ : ByteArray))) (fun _ hk => hk.2) (.string (⟨#[]⟩ : ByteArray))) (fun _ hk => hk.2) (.bool false)) (fun _ hk => hk.2) (.string (⟨#[]⟩ : ByteArray))) (fun _ hk => hk.2) (.string (⟨#[]⟩ : ByteArray))) (fun _ hk => hk.2) (.bool false)) (fun _ hk => hk.2) (.bool false)) (fun _ hk => hk.2) (.int .i64 0)) (fun _ hk => hk.2) (.int .i64 0)) (fun _ hk => hk.2) (.int .i64 0)) (fun _ hk => hk.2) (.int .i64 0)) (fun _ hk => hk.2) (.int .i64 0)) (fun _ hk => ⟨hk.1.1, hk.1.2⟩)))⟩; have n2_ : Aside0 (Kd.R k35 35 w26 w.heap.size (fun k_ => some k_ ≠ (u4 : Value).ownBlock ∧ k_ ≠ gb285) u9 x9_2) := ⟨(by rw [hw]; exact (by (with_reducible repeat (first | apply Kd.R_alloc | apply Kd.R_drewN | apply Kd.R_drew)); exact Kd.R_mono (Kd.R_far (p := ⟨gb285, 12, none⟩) (Kd.R_far (p := ⟨gb285, 11, none⟩) (Kd.R_far (p := ⟨gb285, 10, none⟩) (Kd.R_far (p := ⟨gb285, 9, none⟩) (Kd.R_far (p := ⟨gb285, 8, none⟩) (Kd.R_far (p := ⟨gb285, 7, none⟩) (Kd.R_far (p := ⟨gb285, 6, none⟩) (Kd.R_far (p := ⟨gb285, 5, none⟩) (Kd.R_far (p := ⟨gb285, 4, none⟩) (Kd.R_far (p := ⟨gb285, 3, none⟩) (Kd.R_far (p := ⟨gb285, 2, none⟩) (Kd.R_far (p := ⟨gb285, 1, none⟩) (Kd.R_far (p := ⟨gb285, 0, none⟩) (Kd.R_mono HO_9.out (fun k_ hk => (⟨hk, hk.2⟩ : _ ∧ k_ ≠ gb285))) (fun _ hk => hk.2) (.int .i64 13)) (fun _ hk => hk.2) (.string (⟨#[32]⟩ : ByteArray))) (fun _ hk => hk.2) (.string (⟨#[]⟩ : ByteArray))) (fun _ hk => hk.2) (.bool false)) (fun _ hk => hk.2) (.string (⟨#[]⟩ : ByteArray))) (fun _ hk => hk.2) (.string (⟨#[]⟩ : ByteArray))) (fun _ hk => hk.2) (.bool false)) (fun _ hk => hk.2) (.bool false)) (fun _ hk => hk.2) (.int .i64 0)) (fun _ hk => hk.2) (.int .i64 0)) (fun _ hk => hk.2) (.int .i64 0)) (fun _ hk => hk.2) (.int .i64 0)) (fun _ hk => hk.2) (.int .i64 0)) (fun _ hk => ⟨hk.1.1, hk.1.2⟩)))⟩; have n3_ : Aside0 (w26.heap[gb285]? = some (.cells #[.int .i64 13, .string (⟨#[32]⟩ : ByteArray), .string (⟨#[]⟩ : ByteArray), .bool false, .string (⟨#[]⟩ : ByteArray), .string (⟨#[]⟩ : ByteArray), .bool false, .bool false, .int .i64 0, .int .i64 0, .int .i64 0, .int .i64 0, .int .i64 0] 35 (0, 0))) := ⟨(by rw [hw]; exact (putall13 (bkP BK285.out) (.int .i64 13) (.string (⟨#[32]⟩ : ByteArray)) (.string (⟨#[]⟩ : ByteArray)) (.bool false) (.string (⟨#[]⟩ : ByteArray)) (.string (⟨#[]⟩ : ByteArray)) (.bool false) (.bool false) (.int .i64 0) (.int .i64 0) (.int .i64 0) (.int .i64 0) (.int .i64 0)))⟩; have n4_ : Aside0 (Below w.heap.size w w26) := ⟨(by rw [hw]; exact (belall13 (hbP0 HB.out) GE285.out (.int .i64 13) (.string (⟨#[32]⟩ : ByteArray)) (.string (⟨#[]⟩ : ByteArray)) (.bool false) (.string (⟨#[]⟩ : ByteArray)) (.string (⟨#[]⟩ : ByteArray)) (.bool false) (.bool false) (.int .i64 0) (.int .i64 0) (.int .i64 0) (.int .i64 0) (.int .i64 0)))⟩; clear hw; clear HO_3; clear HO_4; clear HO_9; clear BK285; clear HB; have HO_3 := n0_; have HO_4 := n1_; have HO_9 := n2_; have BK285 := n3_; have HB := n4_; clear n0_ n1_ n2_ n3_ n4_))
           (try simp only [Act.put, List.setIfInBounds_toArray, List.set_cons_zero, List.set_cons_succ])
           go_cut [] (fun wc => ∃ (kq : Nat) (x286012_22 : Int), Aside0 (r17_Value.j4 kq l0 t266 x4_1 x5_1 x7_2 x8_2 x9_2 13 (⟨#[32]⟩ : ByteArray) (⟨#[]⟩ : ByteArray) false (⟨#[]⟩ : ByteArray) (⟨#[]⟩ : ByteArray) false false 0 0 0 0 x286012_22 = some r) ∧ Aside0 (kq ≤ kj8) ∧ Aside0 (Kd.R (Kd.int .i64) 3 wc w.heap.size (fun _ => True) v267 t266) ∧ Aside0 (Kd.R k35 35 wc w.heap.size (fun k_ => some k_ ≠ (u9 : Value).ownBlock ∧ k_ ≠ gb285) u4 x4_1) ∧ Aside0 (Kd.R k35 35 wc w.heap.size (fun k_ => some k_ ≠ (u4 : Value).ownBlock ∧ k_ ≠ gb285) u9 x9_2) ∧ Aside0 (wc.heap[gb285]? = some (.cells #[.int .i64 13, .string (⟨#[32]⟩ : ByteArray), .string (⟨#[]⟩ : ByteArray), .bool false, .string (⟨#[]⟩ : ByteArray), .string (⟨#[]⟩ : ByteArray), .bool false, .bool false, .int .i64 0, .int .i64 0, .int .i64 0, .int .i64 0, .int .i64 x286012_22] 35 (0, 0))) ∧ Aside0 (Below w.heap.size w wc))
           case first => as_aux_lemma =>
            have H := HC23.out
            clear HC23
            by_cases c27 : x8_2 ≥ 0
            ·rw [if_pos c27] at H
             have c27b0 : decide (0 ≤ x8_2) = true := decide_eq_true c27
             clear c27
             (first | rw [c27b0] | (simp only [i64_w, i32_w]; rw [c27b0]) | skip)
             by_cases c28 : 0 ≤ x8_2
             ·rw [if_pos c28] at H
              have c28b0 : decide (0 ≤ x8_2) = true := decide_eq_true c28
              clear c28
              by_cases c29 : x8_2 < (l0.length : Int)
              ·rw [if_pos c29] at H
               have c29b0 : decide (x8_2 < (l0.length : Int)) = true := decide_eq_true c29
               clear c29
               have H' := Aside0.mk H
               clear H
               have p286 : 0 ≤ (x8_2 : Int) := of_decide_eq_true (by first | (with_reducible assumption) | assumption)
               have q286 : x8_2 < (l0.length : Int) := of_decide_eq_true (by first | (with_reducible assumption) | assumption)
               obtain ⟨ad286, e286, hx286_0, hx286_1, hx286_2, hx286_3, hx286_4, hx286_5, hx286_6, hx286_7, hx286_8, hx286_9, hx286_10, hx286_11, hx286_12⟩ := at_T35 HR0.out x8_2 p286 q286
               obtain rfl : ad269 = ad286 := (by injection e286)
               replace hx286_0 := clB HB.out hx286_0
               replace hx286_1 := clB HB.out hx286_1
               replace hx286_2 := clB HB.out hx286_2
               replace hx286_3 := clB HB.out hx286_3
               replace hx286_4 := clB HB.out hx286_4
               replace hx286_5 := clB HB.out hx286_5
               replace hx286_6 := clB HB.out hx286_6
               replace hx286_7 := clB HB.out hx286_7
               replace hx286_8 := clB HB.out hx286_8
               replace hx286_9 := clB HB.out hx286_9
               replace hx286_10 := clB HB.out hx286_10
               replace hx286_11 := clB HB.out hx286_11
               replace hx286_12 := clB HB.out hx286_12
               replace p286 := eq_true p286
               replace q286 := eq_true q286
               have hcz30_0 : w26.cell? ⟨gb285, 0, none⟩ = some (.int .i64 13) := (blk_cell BK285.out 0).trans rfl
               have hcz30_1 : w26.cell? ⟨gb285, 1, none⟩ = some (.string (⟨#[32]⟩ : ByteArray)) := (blk_cell BK285.out 1).trans rfl
               have hcz30_2 : w26.cell? ⟨gb285, 2, none⟩ = some (.string (⟨#[]⟩ : ByteArray)) := (blk_cell BK285.out 2).trans rfl
               have hcz30_3 : w26.cell? ⟨gb285, 3, none⟩ = some (.bool false) := (blk_cell BK285.out 3).trans rfl
               have hcz30_4 : w26.cell? ⟨gb285, 4, none⟩ = some (.string (⟨#[]⟩ : ByteArray)) := (blk_cell BK285.out 4).trans rfl
               have hcz30_5 : w26.cell? ⟨gb285, 5, none⟩ = some (.string (⟨#[]⟩ : ByteArray)) := (blk_cell BK285.out 5).trans rfl
               have hcz30_6 : w26.cell? ⟨gb285, 6, none⟩ = some (.bool false) := (blk_cell BK285.out 6).trans rfl
               have hcz30_7 : w26.cell? ⟨gb285, 7, none⟩ = some (.bool false) := (blk_cell BK285.out 7).trans rfl
               have hcz30_8 : w26.cell? ⟨gb285, 8, none⟩ = some (.int .i64 0) := (blk_cell BK285.out 8).trans rfl
               have hcz30_9 : w26.cell? ⟨gb285, 9, none⟩ = some (.int .i64 0) := (blk_cell BK285.out 9).trans rfl
               have hcz30_10 : w26.cell? ⟨gb285, 10, none⟩ = some (.int .i64 0) := (blk_cell BK285.out 10).trans rfl
               have hcz30_11 : w26.cell? ⟨gb285, 11, none⟩ = some (.int .i64 0) := (blk_cell BK285.out 11).trans rfl
               have hcz30_12 : w26.cell? ⟨gb285, 12, none⟩ = some (.int .i64 0) := (blk_cell BK285.out 12).trans rfl
               have hfz30_0 := blk_frozen BK285.out 0
               have hfz30_1 := blk_frozen BK285.out 1
               have hfz30_2 := blk_frozen BK285.out 2
               have hfz30_3 := blk_frozen BK285.out 3
               have hfz30_4 := blk_frozen BK285.out 4
               have hfz30_5 := blk_frozen BK285.out 5
               have hfz30_6 := blk_frozen BK285.out 6
               have hfz30_7 := blk_frozen BK285.out 7
               have hfz30_8 := blk_frozen BK285.out 8
               have hfz30_9 := blk_frozen BK285.out 9
               have hfz30_10 := blk_frozen BK285.out 10
               have hfz30_11 := blk_frozen BK285.out 11
               have hfz30_12 := blk_frozen BK285.out 12
               go_wp2_with (first | ((with_reducible refine gate_store (t := 3) (p := 87) rfl ?_); refine store_event (t := 3) (p := 87) (v := ?vo_w31) (w1 := (w26.setCell ⟨gb285, 12, none⟩ (.int .i64 ((rd_T35 l0 x8_2).f7)))) ?hg ?ho ?hn ?hr ?_; (case ho => rfl); (case hg => rfl); (case hn => rfl); (case hr => first | (go_simp; done) | (go_simp; rfl)); intro w31 hw; have n0_ : Aside0 (Kd.R (Kd.int .i64) 3 w31 w.heap.size (fun _ => True) v267 t266) := ⟨(by rw [hw]; exact (by (with_reducible repeat (first | apply Kd.R_alloc | apply Kd.R_drewN | apply Kd.R_drew)); exact Kd.R_mono (Kd.R_far (p := ⟨gb285, 12, none⟩) (Kd.R_types HO_3.out BK285.out (by decide)) (fun _ hk => hk.2) (.int .i64 ((rd_T35 l0 x8_2).f7))) (fun _ hk => trivial)))⟩; have n1_ : Aside0 (Kd.R k35 35 w31 w.heap.size (fun k_ => some k_ ≠ (u9 : Value).ownBlock ∧ k_ ≠ gb285) u4 x4_1) := ⟨(by rw [hw]; exact (by (with_reducible repeat (first | apply Kd.R_alloc | apply Kd.R_drewN | apply Kd.R_drew)); exact Kd.R_mono (Kd.R_far (p := ⟨gb285, 12, none⟩) (Kd.R_mono HO_4.out (fun k_ hk => (⟨hk, hk.2⟩ : _ ∧ k_ ≠ gb285))) (fun _ hk => hk.2) (.int .i64 ((rd_T35 l0 x8_2).f7))) (fun _ hk => ⟨hk.1.1, hk.1.2⟩)))⟩; have n2_ : Aside0 (Kd.R k35 35 w31 w.heap.size (fun k_ => some k_ ≠ (u4 : Value).ownBlock ∧ k_ ≠ gb285) u9 x9_2) := ⟨(by rw [hw]; exact (by (with_reducible repeat (first | apply Kd.R_alloc | apply Kd.R_drewN | apply Kd.R_drew)); exact Kd.R_mono (Kd.R_far (p := ⟨gb285, 12, none⟩) (Kd.R_mono HO_9.out (fun k_ hk => (⟨hk, hk.2⟩ : _ ∧ k_ ≠ gb285))) (fun _ hk => hk.2) (.int .i64 ((rd_T35 l0 x8_2).f7))) (fun _ hk => ⟨hk.1.1, hk.1.2⟩)))⟩; have n3_ : Aside0 (w31.heap[gb285]? = some (.cells #[.int .i64 13, .string (⟨#[32]⟩ : ByteArray), .string (⟨#[]⟩ : ByteArray), .bool false, .string (⟨#[]⟩ : ByteArray), .string (⟨#[]⟩ : ByteArray), .bool false, .bool false, .int .i64 0, .int .i64 0, .int .i64 0, .int .i64 0, .int .i64 ((rd_T35 l0 x8_2).f7)] 35 (0, 0))) := ⟨(by rw [hw]; exact (by (with_reducible repeat (first | refine blk_drewN ?_ _ | refine blk_drew ?_ | refine blk_alloc ?_ _)); refine blk_put (cs := #[.int .i64 13, .string (⟨#[32]⟩ : ByteArray), .string (⟨#[]⟩ : ByteArray), .bool false, .string (⟨#[]⟩ : ByteArray), .string (⟨#[]⟩ : ByteArray), .bool false, .bool false, .int .i64 0, .int .i64 0, .int .i64 0, .int .i64 0, .int .i64 0]) ?_ 12 _ rfl; exact bkP BK285.out))⟩; have n4_ : Aside0 (Below w.heap.size w w31) := ⟨(by rw [hw]; exact (hbP1 HB.out GE285.out))⟩; clear hw; clear HO_3; clear HO_4; clear HO_9; clear BK285; clear HB; have HO_3 := n0_; have HO_4 := n1_; have HO_9 := n2_; have BK285 := n3_; have HB := n4_; clear n0_ n1_ n2_ n3_ n4_))
               go_meet
               case rel => exact ⟨_, ((rd_T35 l0 x8_2).f7), H', ⟨by have := HK1.out; have := HK2.out; have := HJ8.out; first | omega | exact Nat.le_refl _⟩, ⟨rwP HO_3.out⟩, ⟨rwP HO_4.out⟩, ⟨rwP HO_9.out⟩, ⟨bkP BK285.out⟩, ⟨hbP1 HB.out GE285.out⟩⟩
              ·rw [if_neg c29] at H
               exact absurd H (by simp)
             ·rw [if_neg c28] at H
              exact absurd H (by simp)
            ·rw [if_neg c27] at H
             exact absurd H (by simp)
           case rest =>
            clear HC23
            obtain ⟨kq, x286012_22, HA, HJ22, HO_3, HO_4, HO_9, BK285, HB⟩ := hcut
            cases kq with
            | zero => exact absurd HA.out (by simp [r17_Value.j4])
            | succ kj22 =>
             have H := HA.out
             clear HA
             simp only [r17_Value.j4] at H
             have HC32 := Aside0.mk H
             clear H
             go_upto_region 23 with (fail)
             go_cut [91] (fun v91 wc => ∃ (kq : Nat) (x91_31 : Bool), v91 = .bool x91_31 ∧ Aside0 (r17_Value.j5 kq l0 t266 x4_1 x5_1 x7_2 x8_2 x9_2 x91_31 13 (⟨#[32]⟩ : ByteArray) (⟨#[]⟩ : ByteArray) false (⟨#[]⟩ : ByteArray) (⟨#[]⟩ : ByteArray) false false 0 0 0 0 x286012_22 = some r) ∧ Aside0 (kq ≤ kj22) ∧ Aside0 (Kd.R (Kd.int .i64) 3 wc w.heap.size (fun _ => True) v267 t266) ∧ Aside0 (Kd.R k35 35 wc w.heap.size (fun k_ => some k_ ≠ (u9 : Value).ownBlock ∧ k_ ≠ gb285) u4 x4_1) ∧ Aside0 (Kd.R k35 35 wc w.heap.size (fun k_ => some k_ ≠ (u4 : Value).ownBlock ∧ k_ ≠ gb285) u9 x9_2) ∧ Aside0 (wc.heap[gb285]? = some (.cells #[.int .i64 13, .string (⟨#[32]⟩ : ByteArray), .string (⟨#[]⟩ : ByteArray), .bool false, .string (⟨#[]⟩ : ByteArray), .string (⟨#[]⟩ : ByteArray), .bool false, .bool false, .int .i64 0, .int .i64 0, .int .i64 0, .int .i64 0, .int .i64 x286012_22] 35 (0, 0))) ∧ Aside0 (Below w.heap.size w wc))
             case first => as_aux_lemma =>
              have H := HC32.out
              clear HC32
              by_cases c33 : x8_2 ≥ 0
              ·rw [if_pos c33] at H
               have c33b0 : decide (0 ≤ x8_2) = true := decide_eq_true c33
               clear c33
               (first | rw [c33b0] | (simp only [i64_w, i32_w]; rw [c33b0]) | skip)
               by_cases c34 : x5_1 ≥ 0
               ·rw [if_pos c34] at H
                have c34b0 : decide (0 ≤ x5_1) = true := decide_eq_true c34
                clear c34
                by_cases c35 : 0 ≤ x5_1
                ·rw [if_pos c35] at H
                 have c35b0 : decide (0 ≤ x5_1) = true := decide_eq_true c35
                 clear c35
                 by_cases c36 : x5_1 < (l0.length : Int)
                 ·rw [if_pos c36] at H
                  have c36b0 : decide (x5_1 < (l0.length : Int)) = true := decide_eq_true c36
                  clear c36
                  replace H := Option.bind_eq_some_iff.mp H
                  obtain ⟨t288, A370, H⟩ := H
                  replace H : (r17_Value.j5 kj22 l0 t266 x4_1 x5_1 x7_2 x8_2 x9_2 t288 13 (⟨#[32]⟩ : ByteArray) (⟨#[]⟩ : ByteArray) false (⟨#[]⟩ : ByteArray) (⟨#[]⟩ : ByteArray) false false 0 0 0 0 x286012_22) = some r := H
                  have A37 := Aside0.mk A370
                  clear A370
                  have H' := Aside0.mk H
                  clear H
                  have p287 : 0 ≤ (x5_1 : Int) := of_decide_eq_true (by first | (with_reducible assumption) | assumption)
                  have q287 : x5_1 < (l0.length : Int) := of_decide_eq_true (by first | (with_reducible assumption) | assumption)
                  obtain ⟨ad287, e287, hx287_0, hx287_1, hx287_2, hx287_3, hx287_4, hx287_5, hx287_6, hx287_7, hx287_8, hx287_9, hx287_10, hx287_11, hx287_12⟩ := at_T35 HR0.out x5_1 p287 q287
                  obtain rfl : ad269 = ad287 := (by injection e287)
                  replace hx287_0 := clB HB.out hx287_0
                  replace hx287_1 := clB HB.out hx287_1
                  replace hx287_2 := clB HB.out hx287_2
                  replace hx287_3 := clB HB.out hx287_3
                  replace hx287_4 := clB HB.out hx287_4
                  replace hx287_5 := clB HB.out hx287_5
                  replace hx287_6 := clB HB.out hx287_6
                  replace hx287_7 := clB HB.out hx287_7
                  replace hx287_8 := clB HB.out hx287_8
                  replace hx287_9 := clB HB.out hx287_9
                  replace hx287_10 := clB HB.out hx287_10
                  replace hx287_11 := clB HB.out hx287_11
                  replace hx287_12 := clB HB.out hx287_12
                  replace p287 := eq_true p287
                  replace q287 := eq_true q287
                  go_wp2_with (first | (go_at_call 20; (with_reducible refine (r13_Line.calls ((rd_T35 l0 x5_1).f0) ((rd_T35 l0 x5_1).f1) ((rd_T35 l0 x5_1).f2) ((rd_T35 l0 x5_1).f3.f0) ((rd_T35 l0 x5_1).f3.f1) ((rd_T35 l0 x5_1).f3.f2) ((rd_T35 l0 x5_1).f4) ((rd_T35 l0 x5_1).f5) ((rd_T35 l0 x5_1).f6.f0) ((rd_T35 l0 x5_1).f6.f1) ((rd_T35 l0 x5_1).f6.f2) ((rd_T35 l0 x5_1).f6.f3) ((rd_T35 l0 x5_1).f7) t288 _ A37.out).mono ?_); rintro e w38 ⟨rfl, hb⟩; have n0_ := Aside0.mk (Kd.R_below (rwP HO_3.out) hb); have n1_ := Aside0.mk (Kd.R_below (rwP HO_4.out) hb); have n2_ := Aside0.mk (Kd.R_below (rwP HO_9.out) hb); have n3_ := Aside0.mk (blk_below (g := gb285) (o := .cells #[.int .i64 13, .string (⟨#[32]⟩ : ByteArray), .string (⟨#[]⟩ : ByteArray), .bool false, .string (⟨#[]⟩ : ByteArray), .string (⟨#[]⟩ : ByteArray), .bool false, .bool false, .int .i64 0, .int .i64 0, .int .i64 0, .int .i64 0, .int .i64 x286012_22] 35 (0, 0)) (bkP BK285.out) hb); have n4_ := Aside0.mk (below_step (hbP1 HB.out GE285.out) hb); clear HO_3; clear HO_4; clear HO_9; clear BK285; clear HB; have HO_3 := n0_; have HO_4 := n1_; have HO_9 := n2_; have BK285 := n3_; have HB := n4_; clear n0_ n1_ n2_ n3_ n4_; (try clear hb); (try clear hb2); (try clear hk); (try clear hi)))
                  go_meet
                  case rel => exact ⟨_, (t288), vqP, H', ⟨by have := HK1.out; have := HK2.out; have := HJ8.out; have := HJ22.out; first | omega | exact Nat.le_refl _⟩, ⟨rwP HO_3.out⟩, ⟨rwP HO_4.out⟩, ⟨rwP HO_9.out⟩, ⟨bkP BK285.out⟩, ⟨hbP1 HB.out GE285.out⟩⟩
                 ·rw [if_neg c36] at H
                  exact absurd H (by simp)
                ·rw [if_neg c35] at H
                 exact absurd H (by simp)
               ·rw [if_neg c34] at H
                exact absurd H (by simp)
              ·rw [if_neg c33] at H
               exact absurd H (by simp)
             case rest =>
              clear HC32
              obtain ⟨kq, x91_31, rfl, HA, HJ31, HO_3, HO_4, HO_9, BK285, HB⟩ := hcut
              cases kq with
              | zero => exact absurd HA.out (by simp [r17_Value.j5])
              | succ kj31 =>
               have H := HA.out
               clear HA
               simp only [r17_Value.j5] at H
               by_cases c39 : x91_31 = true
               ·subst c39
                have H1 : (none) = some r := by rw [if_pos rfl] at H; exact H
                clear H
                have H := H1
                clear H1
                exact absurd H (by simp)
               ·replace c39 := Bool.eq_false_iff.mpr c39
                subst c39
                have H1 : (if x8_2 ≥ 0 then ((r17_before.f kj31 l0 t266 x5_1).bind fun t298 => (if t298 = true then (none) else ((r17_after.f kj31 l0 t266 x7_2).bind fun t302 => (if t302 = true then (none) else (if x4_1.length + x9_2.length < 1099511627776 then ((some (x4_1 ++ x9_2 : List (S35))).bind fun y306 => ((some (([(⟨13, (⟨#[32]⟩ : ByteArray), (⟨#[]⟩ : ByteArray), (⟨false, (⟨#[]⟩ : ByteArray), (⟨#[]⟩ : ByteArray)⟩ : S32), false, false, (⟨0, 0, 0, 0⟩ : S33), x286012_22⟩ : S35)] : List (S35)) : List (S35))).bind fun y309 => (if y306.length + y309.length < 1099511627776 then (r17_Value.l0 kj31 l0 t266 (y306 ++ y309) x5_1 x7_2) else (none)))) else (none)))))) else (none)) = some r := by rw [if_neg (show ¬ (false = true) by decide)] at H; exact H
                clear H
                have H := H1
                clear H1
                by_cases c40 : x8_2 ≥ 0
                ·rw [if_pos c40] at H
                 have c40b0 : decide (0 ≤ x8_2) = true := decide_eq_true c40
                 clear c40
                 replace H := Option.bind_eq_some_iff.mp H
                 obtain ⟨t298, A410, H⟩ := H
                 replace H : (if t298 = true then (none) else ((r17_after.f kj31 l0 t266 x7_2).bind fun t302 => (if t302 = true then (none) else (if x4_1.length + x9_2.length < 1099511627776 then ((some (x4_1 ++ x9_2 : List (S35))).bind fun y306 => ((some (([(⟨13, (⟨#[32]⟩ : ByteArray), (⟨#[]⟩ : ByteArray), (⟨false, (⟨#[]⟩ : ByteArray), (⟨#[]⟩ : ByteArray)⟩ : S32), false, false, (⟨0, 0, 0, 0⟩ : S33), x286012_22⟩ : S35)] : List (S35)) : List (S35))).bind fun y309 => (if y306.length + y309.length < 1099511627776 then (r17_Value.l0 kj31 l0 t266 (y306 ++ y309) x5_1 x7_2) else (none)))) else (none))))) = some r := H
                 have A41 := Aside0.mk A410
                 clear A410
                 by_cases c42 : t298 = true
                 ·subst c42
                  have H1 : (none) = some r := by rw [if_pos rfl] at H; exact H
                  clear H
                  have H := H1
                  clear H1
                  exact absurd H (by simp)
                 ·replace c42 := Bool.eq_false_iff.mpr c42
                  subst c42
                  have H1 : ((r17_after.f kj31 l0 t266 x7_2).bind fun t302 => (if t302 = true then (none) else (if x4_1.length + x9_2.length < 1099511627776 then ((some (x4_1 ++ x9_2 : List (S35))).bind fun y306 => ((some (([(⟨13, (⟨#[32]⟩ : ByteArray), (⟨#[]⟩ : ByteArray), (⟨false, (⟨#[]⟩ : ByteArray), (⟨#[]⟩ : ByteArray)⟩ : S32), false, false, (⟨0, 0, 0, 0⟩ : S33), x286012_22⟩ : S35)] : List (S35)) : List (S35))).bind fun y309 => (if y306.length + y309.length < 1099511627776 then (r17_Value.l0 kj31 l0 t266 (y306 ++ y309) x5_1 x7_2) else (none)))) else (none)))) = some r := by rw [if_neg (show ¬ (false = true) by decide)] at H; exact H
                  clear H
                  have H := H1
                  clear H1
                  replace H := Option.bind_eq_some_iff.mp H
                  obtain ⟨t302, A430, H⟩ := H
                  replace H : (if t302 = true then (none) else (if x4_1.length + x9_2.length < 1099511627776 then ((some (x4_1 ++ x9_2 : List (S35))).bind fun y306 => ((some (([(⟨13, (⟨#[32]⟩ : ByteArray), (⟨#[]⟩ : ByteArray), (⟨false, (⟨#[]⟩ : ByteArray), (⟨#[]⟩ : ByteArray)⟩ : S32), false, false, (⟨0, 0, 0, 0⟩ : S33), x286012_22⟩ : S35)] : List (S35)) : List (S35))).bind fun y309 => (if y306.length + y309.length < 1099511627776 then (r17_Value.l0 kj31 l0 t266 (y306 ++ y309) x5_1 x7_2) else (none)))) else (none))) = some r := H
                  have A43 := Aside0.mk A430
                  clear A430
                  by_cases c44 : t302 = true
                  ·subst c44
                   have H1 : (none) = some r := by rw [if_pos rfl] at H; exact H
                   clear H
                   have H := H1
                   clear H1
                   exact absurd H (by simp)
                  ·replace c44 := Bool.eq_false_iff.mpr c44
                   subst c44
                   have H1 : (if x4_1.length + x9_2.length < 1099511627776 then ((some (x4_1 ++ x9_2 : List (S35))).bind fun y306 => ((some (([(⟨13, (⟨#[32]⟩ : ByteArray), (⟨#[]⟩ : ByteArray), (⟨false, (⟨#[]⟩ : ByteArray), (⟨#[]⟩ : ByteArray)⟩ : S32), false, false, (⟨0, 0, 0, 0⟩ : S33), x286012_22⟩ : S35)] : List (S35)) : List (S35))).bind fun y309 => (if y306.length + y309.length < 1099511627776 then (r17_Value.l0 kj31 l0 t266 (y306 ++ y309) x5_1 x7_2) else (none)))) else (none)) = some r := by rw [if_neg (show ¬ (false = true) by decide)] at H; exact H
                   clear H
                   have H := H1
                   clear H1
                   by_cases c45 : x4_1.length + x9_2.length < 1099511627776
                   ·rw [if_pos c45] at H
                    have LMc45 := Aside0.mk c45
                    clear c45
                    obtain ⟨y306, hy306⟩ : ∃ y_ : List (S35), y_ = (x4_1 ++ x9_2) := ⟨_, rfl⟩
                    replace H : ((some (([(⟨13, (⟨#[32]⟩ : ByteArray), (⟨#[]⟩ : ByteArray), (⟨false, (⟨#[]⟩ : ByteArray), (⟨#[]⟩ : ByteArray)⟩ : S32), false, false, (⟨0, 0, 0, 0⟩ : S33), x286012_22⟩ : S35)] : List (S35)) : List (S35))).bind fun y309 => (if y306.length + y309.length < 1099511627776 then (r17_Value.l0 kj31 l0 t266 (y306 ++ y309) x5_1 x7_2) else (none))) = some r := by first | (rw [hy306]; with_reducible exact H) | (have H2_ := (Option.bind_some _ _).symm.trans H; rw [hy306]; with_reducible exact H2_) | (have H2_ := (Option.bind_some _ _).symm.trans H; with_reducible exact H2_) | with_reducible exact H | (rw [hy306]; exact H) | exact H
                    have Ny306 := Aside0.mk hy306
                    clear hy306
                    obtain ⟨y309, hy309⟩ : ∃ y_ : List (S35), y_ = (([(⟨13, (⟨#[32]⟩ : ByteArray), (⟨#[]⟩ : ByteArray), (⟨false, (⟨#[]⟩ : ByteArray), (⟨#[]⟩ : ByteArray)⟩ : S32), false, false, (⟨0, 0, 0, 0⟩ : S33), x286012_22⟩ : S35)] : List (S35))) := ⟨_, rfl⟩
                    replace H : (if y306.length + y309.length < 1099511627776 then (r17_Value.l0 kj31 l0 t266 (y306 ++ y309) x5_1 x7_2) else (none)) = some r := by first | (rw [hy309]; with_reducible exact H) | (have H2_ := (Option.bind_some _ _).symm.trans H; rw [hy309]; with_reducible exact H2_) | (have H2_ := (Option.bind_some _ _).symm.trans H; with_reducible exact H2_) | with_reducible exact H | (rw [hy309]; exact H) | exact H
                    have Ny309 := Aside0.mk hy309
                    clear hy309
                    by_cases c46 : y306.length + y309.length < 1099511627776
                    ·rw [if_pos c46] at H
                     have LMc46 := Aside0.mk c46
                     clear c46
                     obtain ⟨y312, hy312⟩ : ∃ y_ : List (S35), y_ = (y306 ++ y309) := ⟨_, rfl⟩
                     replace H : (r17_Value.l0 kj31 l0 t266 y312 x5_1 x7_2) = some r := by first | (rw [hy312]; with_reducible exact H) | (have H2_ := (Option.bind_some _ _).symm.trans H; rw [hy312]; with_reducible exact H2_) | (have H2_ := (Option.bind_some _ _).symm.trans H; with_reducible exact H2_) | with_reducible exact H | (rw [hy312]; exact H) | exact H
                     have Ny312 := Aside0.mk hy312
                     clear hy312
                     have H' := Aside0.mk H
                     clear H
                     obtain ⟨Ao47, co47, eo47⟩ := Kd.R_slice HO_3.out
                     subst eo47
                     try go_wp2_with (first | (go_at_call 21; (with_reducible refine (r17_before.calls kj31 _ _ l0 _ _ t266 x5_1 false _ ?side1 ?side2 ?side3 ?side4 A41.out).mono ?_); (case side1 => repeat (first | exact (Kd.C_below HR0.out HB.out) | (with_reducible refine Kd.C_alloc ?_ _) | (with_reducible refine Kd.C_drewN ?_ _) | (with_reducible refine Kd.C_drew ?_))); (case side2 => exact HC0.out); (case side3 => repeat (first | exact (Kd.R_reads' HO_3.out).2.2 | (with_reducible refine Kd.C_alloc ?_ _) | (with_reducible refine Kd.C_drewN ?_ _) | (with_reducible refine Kd.C_drew ?_))); (case side4 => exact (Kd.R_reads' HO_3.out).2.1); rintro e w' ⟨rfl, ⟨nd, rfl⟩⟩) | (go_at_call 22; (with_reducible refine (r17_after.calls kj31 _ _ l0 _ _ t266 x7_2 false _ ?side1 ?side2 ?side3 ?side4 A43.out).mono ?_); (case side1 => repeat (first | exact (Kd.C_below HR0.out (hbP1 HB.out GE285.out)) | (with_reducible refine Kd.C_alloc ?_ _) | (with_reducible refine Kd.C_drewN ?_ _) | (with_reducible refine Kd.C_drew ?_))); (case side2 => exact HC0.out); (case side3 => repeat (first | exact (Kd.R_reads' HO_3.out).2.2 | (with_reducible refine Kd.C_alloc ?_ _) | (with_reducible refine Kd.C_drewN ?_ _) | (with_reducible refine Kd.C_drew ?_))); (case side4 => exact (Kd.R_reads' HO_3.out).2.1); rintro e w' ⟨rfl, ⟨nd, rfl⟩⟩; obtain ⟨Ao48, co48, eo48⟩ := Kd.R_slice HO_4.out; subst eo48; obtain ⟨Ao49, co49, eo49⟩ := Kd.R_slice HO_9.out; subst eo49))
                     (try (rw [drewN_self wc]; generalize hq_ : World.drewN wc _ = wc; have n0_ : Aside0 (Kd.R (Kd.int .i64) 3 wc w.heap.size (fun _ => True) (.slice Ao47 t266.length co47) t266) := ⟨by rw [← hq_]; exact (rwP HO_3.out)⟩; have n1_ : Aside0 (Kd.R k35 35 wc w.heap.size (fun k_ => some k_ ≠ (.slice Ao49 x9_2.length co49 : Value).ownBlock ∧ k_ ≠ gb285) (.slice Ao48 x4_1.length co48) x4_1) := ⟨by rw [← hq_]; exact (rwP HO_4.out)⟩; have n2_ : Aside0 (Kd.R k35 35 wc w.heap.size (fun k_ => some k_ ≠ (.slice Ao48 x4_1.length co48 : Value).ownBlock ∧ k_ ≠ gb285) (.slice Ao49 x9_2.length co49) x9_2) := ⟨by rw [← hq_]; exact (rwP HO_9.out)⟩; have n3_ : Aside0 (wc.heap[gb285]? = some (.cells #[.int .i64 13, .string (⟨#[32]⟩ : ByteArray), .string (⟨#[]⟩ : ByteArray), .bool false, .string (⟨#[]⟩ : ByteArray), .string (⟨#[]⟩ : ByteArray), .bool false, .bool false, .int .i64 0, .int .i64 0, .int .i64 0, .int .i64 0, .int .i64 x286012_22] 35 (0, 0))) := ⟨by rw [← hq_]; exact (bkP BK285.out)⟩; have n4_ : Aside0 (Below w.heap.size w wc) := ⟨by rw [← hq_]; exact (hbP1 HB.out GE285.out)⟩; clear HO_3 HO_4 HO_9 BK285 HB hq_; have HO_3 := n0_; have HO_4 := n1_; have HO_9 := n2_; have BK285 := n3_; have HB := n4_; clear n0_ n1_ n2_ n3_ n4_))
                     have n0_ := Aside0.mk (Kd.R_drew HO_3.out)
                     have n1_ := Aside0.mk (Kd.R_drew HO_4.out)
                     have n2_ := Aside0.mk (Kd.R_drew HO_9.out)
                     have n3_ := Aside0.mk (blk_drew BK285.out)
                     have n4_ := Aside0.mk (below_drew1 HB.out)
                     clear HO_3
                     clear HO_4
                     clear HO_9
                     clear BK285
                     clear HB
                     have HO_3 := n0_
                     have HO_4 := n1_
                     have HO_9 := n2_
                     have BK285 := n3_
                     have HB := n4_
                     clear n0_ n1_ n2_ n3_ n4_
                     refine start_ (n := 7) (S := fun w' => w'.cell? ⟨gb285, 0, none⟩ = some (.int .i64 13) ∧ w'.cell? ⟨gb285, 1, none⟩ = some (.string (⟨#[32]⟩ : ByteArray)) ∧ w'.cell? ⟨gb285, 2, none⟩ = some (.string (⟨#[]⟩ : ByteArray)) ∧ w'.cell? ⟨gb285, 3, none⟩ = some (.bool false) ∧ w'.cell? ⟨gb285, 4, none⟩ = some (.string (⟨#[]⟩ : ByteArray)) ∧ w'.cell? ⟨gb285, 5, none⟩ = some (.string (⟨#[]⟩ : ByteArray)) ∧ w'.cell? ⟨gb285, 6, none⟩ = some (.bool false) ∧ w'.cell? ⟨gb285, 7, none⟩ = some (.bool false) ∧ w'.cell? ⟨gb285, 8, none⟩ = some (.int .i64 0) ∧ w'.cell? ⟨gb285, 9, none⟩ = some (.int .i64 0) ∧ w'.cell? ⟨gb285, 10, none⟩ = some (.int .i64 0) ∧ w'.cell? ⟨gb285, 11, none⟩ = some (.int .i64 0) ∧ w'.cell? ⟨gb285, 12, none⟩ = some (.int .i64 x286012_22)) (ds := []) #[false, false, false, false, false, false, false] (by kernel_rfl) rfl rfl ⟨(blk_cell BK285.out 0).trans rfl, (blk_cell BK285.out 1).trans rfl, (blk_cell BK285.out 2).trans rfl, (blk_cell BK285.out 3).trans rfl, (blk_cell BK285.out 4).trans rfl, (blk_cell BK285.out 5).trans rfl, (blk_cell BK285.out 6).trans rfl, (blk_cell BK285.out 7).trans rfl, (blk_cell BK285.out 8).trans rfl, (blk_cell BK285.out 9).trans rfl, (blk_cell BK285.out 10).trans rfl, (blk_cell BK285.out 11).trans rfl, (blk_cell BK285.out 12).trans rfl⟩ (fun hHeld => ?_)
                     generalize wc.drew = w50 at HO_3 HO_4 HO_9 BK285 HB hHeld ⊢
                     refine pure_ (i := 0) (N := some 129) (v := ?_) (a' := ?_) #[true, false, false, false, false, false, false] rfl rfl (by kernel_rfl) (fun _ _ _ h => h) (Or.inl ⟨by rfl, ?_⟩) ?_ ?_
                     rotate_left
                     ·intro w'
                      go_simp
                      with_reducible rfl
                     rotate_left
                     ·simp only [Act.put, List.setIfInBounds_toArray, List.set_cons_zero, List.set_cons_succ, i64_w, i32_w]
                      rfl
                     refine pure_ (i := 1) (N := some 130) (v := ?_) (a' := ?_) #[true, true, false, false, false, false, false] rfl rfl (by kernel_rfl) (fun _ _ _ h => h) (Or.inl ⟨by rfl, ?_⟩) ?_ ?_
                     rotate_left
                     ·intro w'
                      go_simp
                      with_reducible rfl
                     rotate_left
                     ·simp only [Act.put, List.setIfInBounds_toArray, List.set_cons_zero, List.set_cons_succ, i64_w, i32_w]
                      rfl
                     refine take_ (i := 3) (N := some 132) (v := ?_) (a' := ?_) #[true, true, false, true, false, false, false] rfl rfl (by kernel_rfl) (fun _ _ _ h => h) (Or.inl ⟨by rfl, ?_⟩) hHeld ?_ ?_
                     rotate_left
                     ·rintro w' ⟨s0, s1, s2, s3, s4, s5, s6, s7, s8, s9, s10, s11, s12⟩
                      go_simp
                      with_reducible rfl
                     rotate_left
                     ·simp only [Act.put, List.setIfInBounds_toArray, List.set_cons_zero, List.set_cons_succ, i64_w, i32_w]
                      rfl
                     refine join_ (σ := Value × Value) 2 #[true, true, true, true, true, false, false] (fun s_ => [(131, s_.1), (133, s_.2)]) (fun s_ w' => (w'.cell? ⟨gb285, 0, none⟩ = some (.int .i64 13) ∧ w'.cell? ⟨gb285, 1, none⟩ = some (.string (⟨#[32]⟩ : ByteArray)) ∧ w'.cell? ⟨gb285, 2, none⟩ = some (.string (⟨#[]⟩ : ByteArray)) ∧ w'.cell? ⟨gb285, 3, none⟩ = some (.bool false) ∧ w'.cell? ⟨gb285, 4, none⟩ = some (.string (⟨#[]⟩ : ByteArray)) ∧ w'.cell? ⟨gb285, 5, none⟩ = some (.string (⟨#[]⟩ : ByteArray)) ∧ w'.cell? ⟨gb285, 6, none⟩ = some (.bool false) ∧ w'.cell? ⟨gb285, 7, none⟩ = some (.bool false) ∧ w'.cell? ⟨gb285, 8, none⟩ = some (.int .i64 0) ∧ w'.cell? ⟨gb285, 9, none⟩ = some (.int .i64 0) ∧ w'.cell? ⟨gb285, 10, none⟩ = some (.int .i64 0) ∧ w'.cell? ⟨gb285, 11, none⟩ = some (.int .i64 0) ∧ w'.cell? ⟨gb285, 12, none⟩ = some (.int .i64 x286012_22)) ∧ (Kd.R k35 35 w' w.heap.size (fun k_ => some k_ ≠ (s_.2 : Value).ownBlock ∧ some k_ ≠ (.slice Ao49 x9_2.length co49 : Value).ownBlock ∧ k_ ≠ gb285) s_.1 y306) ∧ (Kd.R k35 35 w' w.heap.size (fun k_ => some k_ ≠ (s_.1 : Value).ownBlock ∧ some k_ ≠ (.slice Ao49 x9_2.length co49 : Value).ownBlock ∧ k_ ≠ gb285) s_.2 y309) ∧ (Kd.R (Kd.int .i64) 3 w' w.heap.size (fun _ => True) (.slice Ao47 t266.length co47) t266) ∧ (Kd.R k35 35 w' w.heap.size (fun k_ => some k_ ≠ (s_.1 : Value).ownBlock ∧ some k_ ≠ (s_.2 : Value).ownBlock ∧ k_ ≠ gb285) (.slice Ao49 x9_2.length co49) x9_2) ∧ (w'.heap[gb285]? = some (.cells #[.int .i64 13, .string (⟨#[32]⟩ : ByteArray), .string (⟨#[]⟩ : ByteArray), .bool false, .string (⟨#[]⟩ : ByteArray), .string (⟨#[]⟩ : ByteArray), .bool false, .bool false, .int .i64 0, .int .i64 0, .int .i64 0, .int .i64 0, .int .i64 x286012_22] 35 (0, 0))) ∧ (Below w.heap.size w w')) ?_ ?_
                     rotate_left
                     ·intro hCont
                      refine two_ (i := 2) (j := 4) (Ni := some 131) (Nj := some 133) #[true, true, true, true, false, false, false] #[true, true, false, true, true, false, false] rfl rfl rfl rfl (by kernel_rfl) (by decide) (by decide) (fun K hK => ?_) (fun K hK => ?_)
                      ·skip
                       refine Kd.R_append_rows_step k35 (w0 := w) w.heap.size (by rfl) (.tmp 129) (.tmp 130) 25 35 (.agg #[(.int .i64 0), (.string ⟨#[]⟩), (.string ⟨#[]⟩), (.bool false), (.string ⟨#[]⟩), (.string ⟨#[]⟩), (.bool false), (.bool false), (.int .i64 0), (.int .i64 0), (.int .i64 0), (.int .i64 0), (.int .i64 0)]) 128 rfl Tryz.underlying25 info35 rfl (by decide) (by omega) (.slice Ao48 x4_1.length co48) x4_1 x9_2 _ _ _ (fun k_ => some k_ ≠ (.slice Ao49 x9_2.length co49 : Value).ownBlock ∧ k_ ≠ gb285) (fun _ => False) rfl rfl ?aO ?aR (fun _ _ h => h) (fun _ h => h.elim) ?aF ?aB ?aS ?aL ?_
                       (case aR => repeat (first | exact (Kd.R_reads' HO_9.out).2.2 | (with_reducible refine Kd.C_alloc ?_ _) | (with_reducible refine Kd.C_drewN ?_ _) | (with_reducible refine Kd.C_drew ?_)))
                       (case aB => exact (hbP1 HB.out GE285.out))
                       (case aF => exact (fun k_ hk => ⟨Kd.fresh' (Kd.R_lt (rwP HO_9.out)) k_ hk, Kd.freshB (g := gb285) (o := .cells #[.int .i64 13, .string (⟨#[32]⟩ : ByteArray), .string (⟨#[]⟩ : ByteArray), .bool false, .string (⟨#[]⟩ : ByteArray), .string (⟨#[]⟩ : ByteArray), .bool false, .bool false, .int .i64 0, .int .i64 0, .int .i64 0, .int .i64 0, .int .i64 x286012_22] 35 (0, 0)) (bkP BK285.out) k_ hk⟩))
                       (case aO => exact (rwP HO_4.out))
                       (case aS => exact (below_size (hbP1 HB.out GE285.out)))
                       (case aL => have := LMc45.out; omega)
                       intro v307 w51 ho hb hg hat
                       rw [← Ny306.out] at ho
                       have n0_ := Aside0.mk (Kd.R_over' (rwP HO_3.out) (Kd.R_typed (rwP HO_4.out)) (by decide) hg)
                       have n1_ := Aside0.mk (Kd.R_after (ok := (fun k_ => k_ ≠ gb285)) (by (with_reducible repeat (first | apply Kd.R_alloc | apply Kd.R_drewN | apply Kd.R_drew)); exact Kd.R_mono HO_9.out (fun _ hk => ⟨hk.2, hk.1⟩)) hg hat)
                       have n2_ := Aside0.mk (blk_grown (g := gb285) (o := .cells #[.int .i64 13, .string (⟨#[32]⟩ : ByteArray), .string (⟨#[]⟩ : ByteArray), .bool false, .string (⟨#[]⟩ : ByteArray), .string (⟨#[]⟩ : ByteArray), .bool false, .bool false, .int .i64 0, .int .i64 0, .int .i64 0, .int .i64 0, .int .i64 x286012_22] 35 (0, 0)) (bkP BK285.out) hg (Kd.R_away HO_4.out (fun _ hk => hk.2)))
                       have n3_ := Aside0.mk (hb)
                       have n4_ := Aside0.mk (ho)
                       clear HO_3
                       clear HO_9
                       clear BK285
                       clear HB
                       clear HO_4
                       have HO_3 := n0_
                       have HO_9 := n1_
                       have BK285 := n2_
                       have HB := n3_
                       have HO308 := n4_
                       clear n0_ n1_ n2_ n3_ n4_
                       clear ho hb hg hat
                       refine hK.out _ _ ⟨(blk_cell BK285.out 0).trans rfl, (blk_cell BK285.out 1).trans rfl, (blk_cell BK285.out 2).trans rfl, (blk_cell BK285.out 3).trans rfl, (blk_cell BK285.out 4).trans rfl, (blk_cell BK285.out 5).trans rfl, (blk_cell BK285.out 6).trans rfl, (blk_cell BK285.out 7).trans rfl, (blk_cell BK285.out 8).trans rfl, (blk_cell BK285.out 9).trans rfl, (blk_cell BK285.out 10).trans rfl, (blk_cell BK285.out 11).trans rfl, (blk_cell BK285.out 12).trans rfl⟩ (fun hHeld => ?_)
                       clear hK K
                       refine norm_ (a' := ?_) ?_ ?_
                       rotate_left
                       ·show Act.put _ (some 131) _ = _
                        simp only [Act.put, List.setIfInBounds_toArray, List.set_cons_zero, List.set_cons_succ, i64_w, i32_w]
                        rfl
                       refine one_ (i := 4) (N := some 133) #[true, true, true, true, true, false, false] rfl rfl (by kernel_rfl) (by decide) (fun K hK => ?_)
                       refine Kd.R_lit_step k35 _ 35 ?hg (N := 133) ?hd (xs := ([(⟨13, (⟨#[32]⟩ : ByteArray), (⟨#[]⟩ : ByteArray), (⟨false, (⟨#[]⟩ : ByteArray), (⟨#[]⟩ : ByteArray)⟩ : S32), false, false, (⟨0, 0, 0, 0⟩ : S33), x286012_22⟩ : S35)] : List (S35))) (inner := [.int .i64 13, .string (⟨#[32]⟩ : ByteArray), .string (⟨#[]⟩ : ByteArray), .bool false, .string (⟨#[]⟩ : ByteArray), .string (⟨#[]⟩ : ByteArray), .bool false, .bool false, .int .i64 0, .int .i64 0, .int .i64 0, .int .i64 0, .int .i64 x286012_22]) (ok := fun _ => True) (okp := fun _ => True) ?hr ?hp (fun _ hk => hk) trivial (Below.refl _ _) (Nat.le_refl _) (by simp) ?_; (case hd => rfl); (case hg => rfl); (case hr => first | (go_simp; done) | (go_simp; rfl)); (case hp => exact (Reps.front (show Kd.M k35 _ _ _ (⟨13, (⟨#[32]⟩ : ByteArray), (⟨#[]⟩ : ByteArray), (⟨false, (⟨#[]⟩ : ByteArray), (⟨#[]⟩ : ByteArray)⟩ : S32), false, false, (⟨0, 0, 0, 0⟩ : S33), x286012_22⟩ : S35) [.int .i64 13, .string (⟨#[32]⟩ : ByteArray), .string (⟨#[]⟩ : ByteArray), .bool false, .string (⟨#[]⟩ : ByteArray), .string (⟨#[]⟩ : ByteArray), .bool false, .bool false, .int .i64 0, .int .i64 0, .int .i64 0, .int .i64 0, .int .i64 x286012_22] from (k35_mkM _ _ _ (⟨13, (⟨#[32]⟩ : ByteArray), (⟨#[]⟩ : ByteArray), (⟨false, (⟨#[]⟩ : ByteArray), (⟨#[]⟩ : ByteArray)⟩ : S32), false, false, (⟨0, 0, 0, 0⟩ : S33), x286012_22⟩ : S35) )) rfl (Reps.none _ _) rfl))
                       intro v310 w52 ho53 hb hg_ hnew_
                       clear hg_ hnew_
                       (first | rw [← Ny309.out] at ho53 | (simp only [Int.reduceToNat] at ho53; rw [← Ny309.out] at ho53))
                       have n0_ := Aside0.mk (Kd.R_below (rwP HO_3.out) hb)
                       have n1_ := Aside0.mk (Kd.R_elder' (rwP HO_9.out) (Kd.R_base ho53) hb)
                       have n2_ := Aside0.mk (Kd.R_elder' (rwP HO308.out) (Kd.R_base ho53) hb)
                       have n3_ := Aside0.mk (Kd.R_lower (Kd.R_newB (Kd.R_new' (Kd.R_new' ho53 (Kd.R_lt (rwP HO_9.out))) (Kd.R_lt (rwP HO308.out))) (g := gb285) (o := .cells #[.int .i64 13, .string (⟨#[32]⟩ : ByteArray), .string (⟨#[]⟩ : ByteArray), .bool false, .string (⟨#[]⟩ : ByteArray), .string (⟨#[]⟩ : ByteArray), .bool false, .bool false, .int .i64 0, .int .i64 0, .int .i64 0, .int .i64 0, .int .i64 x286012_22] 35 (0, 0)) (bkP BK285.out)) (below_size (hbP1 HB.out GE285.out)))
                       have n4_ := Aside0.mk (blk_below (g := gb285) (o := .cells #[.int .i64 13, .string (⟨#[32]⟩ : ByteArray), .string (⟨#[]⟩ : ByteArray), .bool false, .string (⟨#[]⟩ : ByteArray), .string (⟨#[]⟩ : ByteArray), .bool false, .bool false, .int .i64 0, .int .i64 0, .int .i64 0, .int .i64 0, .int .i64 x286012_22] 35 (0, 0)) (bkP BK285.out) hb)
                       have n5_ := Aside0.mk (below_step (hbP1 HB.out GE285.out) hb)
                       clear HO_3
                       clear HO_9
                       clear HO308
                       clear BK285
                       clear HB
                       have HO_3 := n0_
                       have HO_9 := n1_
                       have HO308 := n2_
                       have HO311 := n3_
                       have BK285 := n4_
                       have HB := n5_
                       clear n0_ n1_ n2_ n3_ n4_ n5_
                       clear hb ho53
                       refine hK.out _ _ ⟨(blk_cell BK285.out 0).trans rfl, (blk_cell BK285.out 1).trans rfl, (blk_cell BK285.out 2).trans rfl, (blk_cell BK285.out 3).trans rfl, (blk_cell BK285.out 4).trans rfl, (blk_cell BK285.out 5).trans rfl, (blk_cell BK285.out 6).trans rfl, (blk_cell BK285.out 7).trans rfl, (blk_cell BK285.out 8).trans rfl, (blk_cell BK285.out 9).trans rfl, (blk_cell BK285.out 10).trans rfl, (blk_cell BK285.out 11).trans rfl, (blk_cell BK285.out 12).trans rfl⟩ (fun hHeld => ?_)
                       clear hK K
                       refine norm_ (a' := ?_) ?_ ?_
                       rotate_left
                       ·show Act.put _ (some 133) _ = _
                        simp only [Act.put, List.setIfInBounds_toArray, List.set_cons_zero, List.set_cons_succ, i64_w, i32_w]
                        rfl
                       exact norm_ (by simp only [putAll, Act.put, List.setIfInBounds_toArray, List.set_cons_zero, List.set_cons_succ]) (hCont (v307, v310) _ ⟨hHeld, (by (with_reducible repeat (first | apply Kd.R_alloc | apply Kd.R_drewN | apply Kd.R_drew)); exact Kd.R_mono HO308.out (fun _ hk => ⟨hk.2, ⟨hk.1.1, hk.1.2⟩⟩)), (by (with_reducible repeat (first | apply Kd.R_alloc | apply Kd.R_drewN | apply Kd.R_drew)); exact Kd.R_mono HO311.out (fun _ hk => ⟨hk.1.2, ⟨hk.1.1.2, hk.2⟩⟩)), (rwP HO_3.out), (by (with_reducible repeat (first | apply Kd.R_alloc | apply Kd.R_drewN | apply Kd.R_drew)); exact Kd.R_mono HO_9.out (fun _ hk => ⟨hk.1.2, ⟨hk.2, hk.1.1⟩⟩)), (bkP BK285.out), (hbP1 HB.out GE285.out)⟩)
                      ·skip
                       refine Kd.R_lit_step k35 _ 35 ?hg (N := 133) ?hd (xs := ([(⟨13, (⟨#[32]⟩ : ByteArray), (⟨#[]⟩ : ByteArray), (⟨false, (⟨#[]⟩ : ByteArray), (⟨#[]⟩ : ByteArray)⟩ : S32), false, false, (⟨0, 0, 0, 0⟩ : S33), x286012_22⟩ : S35)] : List (S35))) (inner := [.int .i64 13, .string (⟨#[32]⟩ : ByteArray), .string (⟨#[]⟩ : ByteArray), .bool false, .string (⟨#[]⟩ : ByteArray), .string (⟨#[]⟩ : ByteArray), .bool false, .bool false, .int .i64 0, .int .i64 0, .int .i64 0, .int .i64 0, .int .i64 x286012_22]) (ok := fun _ => True) (okp := fun _ => True) ?hr ?hp (fun _ hk => hk) trivial (Below.refl _ _) (Nat.le_refl _) (by simp) ?_; (case hd => rfl); (case hg => rfl); (case hr => first | (go_simp; done) | (go_simp; rfl)); (case hp => exact (Reps.front (show Kd.M k35 _ _ _ (⟨13, (⟨#[32]⟩ : ByteArray), (⟨#[]⟩ : ByteArray), (⟨false, (⟨#[]⟩ : ByteArray), (⟨#[]⟩ : ByteArray)⟩ : S32), false, false, (⟨0, 0, 0, 0⟩ : S33), x286012_22⟩ : S35) [.int .i64 13, .string (⟨#[32]⟩ : ByteArray), .string (⟨#[]⟩ : ByteArray), .bool false, .string (⟨#[]⟩ : ByteArray), .string (⟨#[]⟩ : ByteArray), .bool false, .bool false, .int .i64 0, .int .i64 0, .int .i64 0, .int .i64 0, .int .i64 x286012_22] from (k35_mkM _ _ _ (⟨13, (⟨#[32]⟩ : ByteArray), (⟨#[]⟩ : ByteArray), (⟨false, (⟨#[]⟩ : ByteArray), (⟨#[]⟩ : ByteArray)⟩ : S32), false, false, (⟨0, 0, 0, 0⟩ : S33), x286012_22⟩ : S35) )) rfl (Reps.none _ _) rfl))
                       intro v310 w51 ho52 hb hg_ hnew_
                       clear hg_ hnew_
                       (first | rw [← Ny309.out] at ho52 | (simp only [Int.reduceToNat] at ho52; rw [← Ny309.out] at ho52))
                       have n0_ := Aside0.mk (Kd.R_below (rwP HO_3.out) hb)
                       have n1_ := Aside0.mk (Kd.R_elder' (rwP HO_4.out) (Kd.R_base ho52) hb)
                       have n2_ := Aside0.mk (Kd.R_elder' (rwP HO_9.out) (Kd.R_base ho52) hb)
                       have n3_ := Aside0.mk (Kd.R_lower (Kd.R_newB (Kd.R_new' (Kd.R_new' ho52 (Kd.R_lt (rwP HO_4.out))) (Kd.R_lt (rwP HO_9.out))) (g := gb285) (o := .cells #[.int .i64 13, .string (⟨#[32]⟩ : ByteArray), .string (⟨#[]⟩ : ByteArray), .bool false, .string (⟨#[]⟩ : ByteArray), .string (⟨#[]⟩ : ByteArray), .bool false, .bool false, .int .i64 0, .int .i64 0, .int .i64 0, .int .i64 0, .int .i64 x286012_22] 35 (0, 0)) (bkP BK285.out)) (below_size (hbP1 HB.out GE285.out)))
                       have n4_ := Aside0.mk (blk_below (g := gb285) (o := .cells #[.int .i64 13, .string (⟨#[32]⟩ : ByteArray), .string (⟨#[]⟩ : ByteArray), .bool false, .string (⟨#[]⟩ : ByteArray), .string (⟨#[]⟩ : ByteArray), .bool false, .bool false, .int .i64 0, .int .i64 0, .int .i64 0, .int .i64 0, .int .i64 x286012_22] 35 (0, 0)) (bkP BK285.out) hb)
                       have n5_ := Aside0.mk (below_step (hbP1 HB.out GE285.out) hb)
                       clear HO_3
                       clear HO_4
                       clear HO_9
                       clear BK285
                       clear HB
                       have HO_3 := n0_
                       have HO_4 := n1_
                       have HO_9 := n2_
                       have HO311 := n3_
                       have BK285 := n4_
                       have HB := n5_
                       clear n0_ n1_ n2_ n3_ n4_ n5_
                       clear hb ho52
                       refine hK.out _ _ ⟨(blk_cell BK285.out 0).trans rfl, (blk_cell BK285.out 1).trans rfl, (blk_cell BK285.out 2).trans rfl, (blk_cell BK285.out 3).trans rfl, (blk_cell BK285.out 4).trans rfl, (blk_cell BK285.out 5).trans rfl, (blk_cell BK285.out 6).trans rfl, (blk_cell BK285.out 7).trans rfl, (blk_cell BK285.out 8).trans rfl, (blk_cell BK285.out 9).trans rfl, (blk_cell BK285.out 10).trans rfl, (blk_cell BK285.out 11).trans rfl, (blk_cell BK285.out 12).trans rfl⟩ (fun hHeld => ?_)
                       clear hK K
                       refine norm_ (a' := ?_) ?_ ?_
                       rotate_left
                       ·show Act.put _ (some 133) _ = _
                        simp only [Act.put, List.setIfInBounds_toArray, List.set_cons_zero, List.set_cons_succ, i64_w, i32_w]
                        rfl
                       refine one_ (i := 2) (N := some 131) #[true, true, true, true, true, false, false] rfl rfl (by kernel_rfl) (by decide) (fun K hK => ?_)
                       refine Kd.R_append_rows_step k35 (w0 := w) w.heap.size (by rfl) (.tmp 129) (.tmp 130) 25 35 (.agg #[(.int .i64 0), (.string ⟨#[]⟩), (.string ⟨#[]⟩), (.bool false), (.string ⟨#[]⟩), (.string ⟨#[]⟩), (.bool false), (.bool false), (.int .i64 0), (.int .i64 0), (.int .i64 0), (.int .i64 0), (.int .i64 0)]) 128 rfl Tryz.underlying25 info35 rfl (by decide) (by omega) (.slice Ao48 x4_1.length co48) x4_1 x9_2 _ _ _ (fun k_ => some k_ ≠ (.slice Ao49 x9_2.length co49 : Value).ownBlock ∧ some k_ ≠ (v310 : Value).ownBlock ∧ k_ ≠ gb285) (fun _ => False) rfl rfl ?aO ?aR (fun _ _ h => h) (fun _ h => h.elim) ?aF ?aB ?aS ?aL ?_
                       (case aR => repeat (first | exact (Kd.R_reads' HO_9.out).2.2 | (with_reducible refine Kd.C_alloc ?_ _) | (with_reducible refine Kd.C_drewN ?_ _) | (with_reducible refine Kd.C_drew ?_)))
                       (case aB => exact (hbP1 HB.out GE285.out))
                       (case aF => exact (fun k_ hk => ⟨Kd.fresh' (Kd.R_lt (rwP HO_9.out)) k_ hk, Kd.fresh' (Kd.R_lt (rwP HO311.out)) k_ hk, Kd.freshB (g := gb285) (o := .cells #[.int .i64 13, .string (⟨#[32]⟩ : ByteArray), .string (⟨#[]⟩ : ByteArray), .bool false, .string (⟨#[]⟩ : ByteArray), .string (⟨#[]⟩ : ByteArray), .bool false, .bool false, .int .i64 0, .int .i64 0, .int .i64 0, .int .i64 0, .int .i64 x286012_22] 35 (0, 0)) (bkP BK285.out) k_ hk⟩))
                       (case aO => exact (by (with_reducible repeat (first | apply Kd.R_alloc | apply Kd.R_drewN | apply Kd.R_drew)); exact Kd.R_mono HO_4.out (fun _ hk => ⟨hk.1.1, ⟨hk.2, hk.1.2⟩⟩)))
                       (case aS => exact (below_size (hbP1 HB.out GE285.out)))
                       (case aL => have := LMc45.out; omega)
                       intro v307 w53 ho hb hg hat
                       rw [← Ny306.out] at ho
                       have n0_ := Aside0.mk (Kd.R_over' (rwP HO_3.out) (Kd.R_typed (rwP HO_4.out)) (by decide) hg)
                       have n1_ := Aside0.mk (Kd.R_after (ok := (fun k_ => some k_ ≠ (v310 : Value).ownBlock ∧ k_ ≠ gb285)) (by (with_reducible repeat (first | apply Kd.R_alloc | apply Kd.R_drewN | apply Kd.R_drew)); exact Kd.R_mono HO_9.out (fun _ hk => ⟨⟨hk.2, hk.1.2⟩, hk.1.1⟩)) hg hat)
                       have n2_ := Aside0.mk (blk_grown (g := gb285) (o := .cells #[.int .i64 13, .string (⟨#[32]⟩ : ByteArray), .string (⟨#[]⟩ : ByteArray), .bool false, .string (⟨#[]⟩ : ByteArray), .string (⟨#[]⟩ : ByteArray), .bool false, .bool false, .int .i64 0, .int .i64 0, .int .i64 0, .int .i64 0, .int .i64 x286012_22] 35 (0, 0)) (bkP BK285.out) hg (Kd.R_away HO_4.out (fun _ hk => hk.1.2)))
                       have n3_ := Aside0.mk (Kd.R_after (ok := (fun k_ => some k_ ≠ (.slice Ao49 x9_2.length co49 : Value).ownBlock ∧ k_ ≠ gb285)) (by (with_reducible repeat (first | apply Kd.R_alloc | apply Kd.R_drewN | apply Kd.R_drew)); exact Kd.R_mono HO311.out (fun _ hk => ⟨⟨hk.1.2, hk.2⟩, hk.1.1.2⟩)) hg hat)
                       have n4_ := Aside0.mk (hb)
                       have n5_ := Aside0.mk (ho)
                       clear HO_3
                       clear HO_9
                       clear BK285
                       clear HO311
                       clear HB
                       clear HO_4
                       have HO_3 := n0_
                       have HO_9 := n1_
                       have BK285 := n2_
                       have HO311 := n3_
                       have HB := n4_
                       have HO308 := n5_
                       clear n0_ n1_ n2_ n3_ n4_ n5_
                       clear ho hb hg hat
                       refine hK.out _ _ ⟨(blk_cell BK285.out 0).trans rfl, (blk_cell BK285.out 1).trans rfl, (blk_cell BK285.out 2).trans rfl, (blk_cell BK285.out 3).trans rfl, (blk_cell BK285.out 4).trans rfl, (blk_cell BK285.out 5).trans rfl, (blk_cell BK285.out 6).trans rfl, (blk_cell BK285.out 7).trans rfl, (blk_cell BK285.out 8).trans rfl, (blk_cell BK285.out 9).trans rfl, (blk_cell BK285.out 10).trans rfl, (blk_cell BK285.out 11).trans rfl, (blk_cell BK285.out 12).trans rfl⟩ (fun hHeld => ?_)
                       clear hK K
                       refine norm_ (a' := ?_) ?_ ?_
                       rotate_left
                       ·show Act.put _ (some 131) _ = _
                        simp only [Act.put, List.setIfInBounds_toArray, List.set_cons_zero, List.set_cons_succ, i64_w, i32_w]
                        rfl
                       exact norm_ (by simp only [putAll, Act.put, List.setIfInBounds_toArray, List.set_cons_zero, List.set_cons_succ]) (hCont (v307, v310) _ ⟨hHeld, (by (with_reducible repeat (first | apply Kd.R_alloc | apply Kd.R_drewN | apply Kd.R_drew)); exact Kd.R_mono HO308.out (fun _ hk => ⟨hk.2.1, ⟨hk.1, hk.2.2⟩⟩)), (by (with_reducible repeat (first | apply Kd.R_alloc | apply Kd.R_drewN | apply Kd.R_drew)); exact Kd.R_mono HO311.out (fun _ hk => ⟨hk.2, ⟨hk.1.1, hk.1.2⟩⟩)), (rwP HO_3.out), (by (with_reducible repeat (first | apply Kd.R_alloc | apply Kd.R_drewN | apply Kd.R_drew)); exact Kd.R_mono HO_9.out (fun _ hk => ⟨hk.2, ⟨hk.1.1, hk.1.2⟩⟩)), (bkP BK285.out), (hbP1 HB.out GE285.out)⟩)
                     rintro ⟨v307, v310⟩ w54 ⟨hS_, h0_, h1_, h2_, h3_, h4_, h5_⟩
                     have n0_ : Aside0 (Kd.R k35 35 w54 w.heap.size (fun k_ => some k_ ≠ (v310 : Value).ownBlock ∧ some k_ ≠ (.slice Ao49 x9_2.length co49 : Value).ownBlock ∧ k_ ≠ gb285) v307 y306) := ⟨h0_⟩
                     have n1_ : Aside0 (Kd.R k35 35 w54 w.heap.size (fun k_ => some k_ ≠ (v307 : Value).ownBlock ∧ some k_ ≠ (.slice Ao49 x9_2.length co49 : Value).ownBlock ∧ k_ ≠ gb285) v310 y309) := ⟨h1_⟩
                     have n2_ : Aside0 (Kd.R (Kd.int .i64) 3 w54 w.heap.size (fun _ => True) (.slice Ao47 t266.length co47) t266) := ⟨h2_⟩
                     have n3_ : Aside0 (Kd.R k35 35 w54 w.heap.size (fun k_ => some k_ ≠ (v307 : Value).ownBlock ∧ some k_ ≠ (v310 : Value).ownBlock ∧ k_ ≠ gb285) (.slice Ao49 x9_2.length co49) x9_2) := ⟨h3_⟩
                     have n4_ : Aside0 (w54.heap[gb285]? = some (.cells #[.int .i64 13, .string (⟨#[32]⟩ : ByteArray), .string (⟨#[]⟩ : ByteArray), .bool false, .string (⟨#[]⟩ : ByteArray), .string (⟨#[]⟩ : ByteArray), .bool false, .bool false, .int .i64 0, .int .i64 0, .int .i64 0, .int .i64 0, .int .i64 x286012_22] 35 (0, 0))) := ⟨h4_⟩
                     have n5_ : Aside0 (Below w.heap.size w w54) := ⟨h5_⟩
                     clear HO_3
                     clear HO_4
                     clear HO_9
                     clear BK285
                     clear HB
                     clear h0_ h1_ h2_ h3_ h4_ h5_
                     have HO308 := n0_
                     have HO311 := n1_
                     have HO_3 := n2_
                     have HO_9 := n3_
                     have BK285 := n4_
                     have HB := n5_
                     clear n0_ n1_ n2_ n3_ n4_ n5_
                     have hHeld : w54.cell? ⟨gb285, 0, none⟩ = some (.int .i64 13) ∧ w54.cell? ⟨gb285, 1, none⟩ = some (.string (⟨#[32]⟩ : ByteArray)) ∧ w54.cell? ⟨gb285, 2, none⟩ = some (.string (⟨#[]⟩ : ByteArray)) ∧ w54.cell? ⟨gb285, 3, none⟩ = some (.bool false) ∧ w54.cell? ⟨gb285, 4, none⟩ = some (.string (⟨#[]⟩ : ByteArray)) ∧ w54.cell? ⟨gb285, 5, none⟩ = some (.string (⟨#[]⟩ : ByteArray)) ∧ w54.cell? ⟨gb285, 6, none⟩ = some (.bool false) ∧ w54.cell? ⟨gb285, 7, none⟩ = some (.bool false) ∧ w54.cell? ⟨gb285, 8, none⟩ = some (.int .i64 0) ∧ w54.cell? ⟨gb285, 9, none⟩ = some (.int .i64 0) ∧ w54.cell? ⟨gb285, 10, none⟩ = some (.int .i64 0) ∧ w54.cell? ⟨gb285, 11, none⟩ = some (.int .i64 0) ∧ w54.cell? ⟨gb285, 12, none⟩ = some (.int .i64 x286012_22) := hS_
                     obtain ⟨Ao56, co56, eo56⟩ := Kd.R_slice HO311.out
                     (first | subst eo56 | (injection eo56 with f1_ f2_ f3_; have f4_ := f1_.symm; have f5_ := f3_.symm; clear f1_ f2_ f3_; subst f4_; subst f5_))
                     refine norm_ (a' := ?_) ?_ ?_
                     rotate_left
                     ·simp only [putAll, Act.put, List.setIfInBounds_toArray, List.set_cons_zero, List.set_cons_succ]
                      rfl
                     refine one_ (i := 5) (N := some 134) #[true, true, true, true, true, true, false] rfl rfl (by kernel_rfl) (by decide) (fun K hK => ?_)
                     refine Kd.R_append_rows_step k35 (w0 := w) w.heap.size (by rfl) (.tmp 131) (.tmp 133) 25 35 (.agg #[(.int .i64 0), (.string ⟨#[]⟩), (.string ⟨#[]⟩), (.bool false), (.string ⟨#[]⟩), (.string ⟨#[]⟩), (.bool false), (.bool false), (.int .i64 0), (.int .i64 0), (.int .i64 0), (.int .i64 0), (.int .i64 0)]) 128 rfl Tryz.underlying25 info35 rfl (by decide) (by omega) v307 y306 y309 _ _ _ (fun k_ => some k_ ≠ (.slice Ao49 x9_2.length co49 : Value).ownBlock ∧ some k_ ≠ (.slice Ao56 y309.length co56 : Value).ownBlock ∧ k_ ≠ gb285) (fun _ => False) rfl rfl ?aO ?aR (fun _ _ h => h) (fun _ h => h.elim) ?aF ?aB ?aS ?aL ?_
                     (case aR => repeat (first | exact (Kd.R_reads' HO311.out).2.2 | (with_reducible refine Kd.C_alloc ?_ _) | (with_reducible refine Kd.C_drewN ?_ _) | (with_reducible refine Kd.C_drew ?_)))
                     (case aB => exact (hbP1 HB.out GE285.out))
                     (case aF => exact (fun k_ hk => ⟨Kd.fresh' (Kd.R_lt (rwP HO_9.out)) k_ hk, Kd.fresh' (Kd.R_lt (rwP HO311.out)) k_ hk, Kd.freshB (g := gb285) (o := .cells #[.int .i64 13, .string (⟨#[32]⟩ : ByteArray), .string (⟨#[]⟩ : ByteArray), .bool false, .string (⟨#[]⟩ : ByteArray), .string (⟨#[]⟩ : ByteArray), .bool false, .bool false, .int .i64 0, .int .i64 0, .int .i64 0, .int .i64 0, .int .i64 x286012_22] 35 (0, 0)) (bkP BK285.out) k_ hk⟩))
                     (case aO => exact (by (with_reducible repeat (first | apply Kd.R_alloc | apply Kd.R_drewN | apply Kd.R_drew)); exact Kd.R_mono HO308.out (fun _ hk => ⟨hk.2.1, ⟨hk.1, hk.2.2⟩⟩)))
                     (case aS => exact (below_size (hbP1 HB.out GE285.out)))
                     (case aL => have := LMc46.out; omega)
                     intro v313 w55 ho hb hg hat
                     rw [← Ny312.out] at ho
                     have n0_ := Aside0.mk (Kd.R_over' (rwP HO_3.out) (Kd.R_typed (rwP HO308.out)) (by decide) hg)
                     have n1_ := Aside0.mk (Kd.R_after (ok := (fun k_ => some k_ ≠ (.slice Ao56 y309.length co56 : Value).ownBlock ∧ k_ ≠ gb285)) (by (with_reducible repeat (first | apply Kd.R_alloc | apply Kd.R_drewN | apply Kd.R_drew)); exact Kd.R_mono HO_9.out (fun _ hk => ⟨⟨hk.2.1, hk.2.2⟩, hk.1⟩)) hg hat)
                     have n2_ := Aside0.mk (blk_grown (g := gb285) (o := .cells #[.int .i64 13, .string (⟨#[32]⟩ : ByteArray), .string (⟨#[]⟩ : ByteArray), .bool false, .string (⟨#[]⟩ : ByteArray), .string (⟨#[]⟩ : ByteArray), .bool false, .bool false, .int .i64 0, .int .i64 0, .int .i64 0, .int .i64 0, .int .i64 x286012_22] 35 (0, 0)) (bkP BK285.out) hg (Kd.R_away HO308.out (fun _ hk => hk.2.2)))
                     have n3_ := Aside0.mk (Kd.R_after (ok := (fun k_ => some k_ ≠ (.slice Ao49 x9_2.length co49 : Value).ownBlock ∧ k_ ≠ gb285)) (by (with_reducible repeat (first | apply Kd.R_alloc | apply Kd.R_drewN | apply Kd.R_drew)); exact Kd.R_mono HO311.out (fun _ hk => ⟨⟨hk.2.1, hk.2.2⟩, hk.1⟩)) hg hat)
                     have n4_ := Aside0.mk (hb)
                     have n5_ := Aside0.mk (ho)
                     clear HO_3
                     clear HO_9
                     clear BK285
                     clear HO311
                     clear HB
                     clear HO308
                     have HO_3 := n0_
                     have HO_9 := n1_
                     have BK285 := n2_
                     have HO311 := n3_
                     have HB := n4_
                     have HO314 := n5_
                     clear n0_ n1_ n2_ n3_ n4_ n5_
                     clear ho hb hg hat
                     refine hK.out _ _ ⟨(blk_cell BK285.out 0).trans rfl, (blk_cell BK285.out 1).trans rfl, (blk_cell BK285.out 2).trans rfl, (blk_cell BK285.out 3).trans rfl, (blk_cell BK285.out 4).trans rfl, (blk_cell BK285.out 5).trans rfl, (blk_cell BK285.out 6).trans rfl, (blk_cell BK285.out 7).trans rfl, (blk_cell BK285.out 8).trans rfl, (blk_cell BK285.out 9).trans rfl, (blk_cell BK285.out 10).trans rfl, (blk_cell BK285.out 11).trans rfl, (blk_cell BK285.out 12).trans rfl⟩ (fun hHeld => ?_)
                     clear hK K
                     refine norm_ (a' := ?_) ?_ ?_
                     rotate_left
                     ·show Act.put _ (some 134) _ = _
                      simp only [Act.put, List.setIfInBounds_toArray, List.set_cons_zero, List.set_cons_succ, i64_w, i32_w]
                      rfl
                     refine pure_ (i := 6) (N := some 4) (v := ?_) (a' := ?_) #[true, true, true, true, true, true, true] rfl rfl (by kernel_rfl) (fun _ _ _ h => h) (Or.inl ⟨by rfl, ?_⟩) ?_ ?_
                     rotate_left
                     ·intro w'
                      go_simp
                      with_reducible rfl
                     rotate_left
                     ·simp only [Act.put, List.setIfInBounds_toArray, List.set_cons_zero, List.set_cons_succ, i64_w, i32_w]
                      rfl
                     refine done_ (by kernel_rfl) ?_
                     try go_wp2
                     go_roundg kj31
                     case measure => have := HK1.out; have := HK2.out; have := HJ8.out; have := HJ22.out; have := HJ31.out; omega
                     case rel => exact ⟨(y312), (x5_1), (x7_2), vqP, vqP, H', ⟨by have := HK1.out; have := HK2.out; have := HJ8.out; have := HJ22.out; have := HJ31.out; omega⟩, ⟨rwP HO_3.out⟩, ⟨by (with_reducible repeat (first | apply Kd.R_alloc | apply Kd.R_drewN | apply Kd.R_drew)); exact Kd.R_mono HO314.out (fun _ hk => trivial)⟩, ⟨hbP1 HB.out GE285.out⟩⟩
                    ·rw [if_neg c46] at H
                     exact absurd H (by simp)
                   ·rw [if_neg c45] at H
                    exact absurd H (by simp)
                ·rw [if_neg c40] at H
                 exact absurd H (by simp)
     ·replace c7 := Bool.eq_false_iff.mpr c7
      subst c7
      have H1 : ((some (([(⟨(rd_T35 l0 x6_1).f0, (rd_T35 l0 x6_1).f1, (rd_T35 l0 x6_1).f2, (⟨(rd_T35 l0 x6_1).f3.f0, (rd_T35 l0 x6_1).f3.f1, (rd_T35 l0 x6_1).f3.f2⟩ : S32), (rd_T35 l0 x6_1).f4, (rd_T35 l0 x6_1).f5, (⟨(rd_T35 l0 x6_1).f6.f0, (rd_T35 l0 x6_1).f6.f1, (rd_T35 l0 x6_1).f6.f2, (rd_T35 l0 x6_1).f6.f3⟩ : S33), (rd_T35 l0 x6_1).f7⟩ : S35)] : List (S35)) : List (S35))).bind fun y272 => (if x4_1.length + y272.length < 1099511627776 then (r17_Value.l0 k1 l0 t266 (x4_1 ++ y272) x6_1 (wrap64 (x6_1 + 1))) else (none))) = some r := by rw [if_neg (show ¬ (false = true) by decide)] at H; exact H
      clear H
      have H := H1
      clear H1
      obtain ⟨y272, hy272⟩ : ∃ y_ : List (S35), y_ = (([(⟨(rd_T35 l0 x6_1).f0, (rd_T35 l0 x6_1).f1, (rd_T35 l0 x6_1).f2, (⟨(rd_T35 l0 x6_1).f3.f0, (rd_T35 l0 x6_1).f3.f1, (rd_T35 l0 x6_1).f3.f2⟩ : S32), (rd_T35 l0 x6_1).f4, (rd_T35 l0 x6_1).f5, (⟨(rd_T35 l0 x6_1).f6.f0, (rd_T35 l0 x6_1).f6.f1, (rd_T35 l0 x6_1).f6.f2, (rd_T35 l0 x6_1).f6.f3⟩ : S33), (rd_T35 l0 x6_1).f7⟩ : S35)] : List (S35))) := ⟨_, rfl⟩
      replace H : (if x4_1.length + y272.length < 1099511627776 then (r17_Value.l0 k1 l0 t266 (x4_1 ++ y272) x6_1 (wrap64 (x6_1 + 1))) else (none)) = some r := by first | (rw [hy272]; with_reducible exact H) | (have H2_ := (Option.bind_some _ _).symm.trans H; rw [hy272]; with_reducible exact H2_) | (have H2_ := (Option.bind_some _ _).symm.trans H; with_reducible exact H2_) | with_reducible exact H | (rw [hy272]; exact H) | exact H
      have Ny272 := Aside0.mk hy272
      clear hy272
      by_cases c57 : x4_1.length + y272.length < 1099511627776
      ·rw [if_pos c57] at H
       have LMc57 := Aside0.mk c57
       clear c57
       obtain ⟨y275, hy275⟩ : ∃ y_ : List (S35), y_ = (x4_1 ++ y272) := ⟨_, rfl⟩
       replace H : (r17_Value.l0 k1 l0 t266 y275 x6_1 (wrap64 (x6_1 + 1))) = some r := by first | (rw [hy275]; with_reducible exact H) | (have H2_ := (Option.bind_some _ _).symm.trans H; rw [hy275]; with_reducible exact H2_) | (have H2_ := (Option.bind_some _ _).symm.trans H; with_reducible exact H2_) | with_reducible exact H | (rw [hy275]; exact H) | exact H
       have Ny275 := Aside0.mk hy275
       clear hy275
       have H' := Aside0.mk H
       clear H
       have p269 : 0 ≤ (x6_1 : Int) := of_decide_eq_true (by first | (with_reducible assumption) | assumption)
       have q269 : x6_1 < (l0.length : Int) := of_decide_eq_true (by first | (with_reducible assumption) | assumption)
       obtain ⟨ad269, e269, hx269_0, hx269_1, hx269_2, hx269_3, hx269_4, hx269_5, hx269_6, hx269_7, hx269_8, hx269_9, hx269_10, hx269_11, hx269_12⟩ := at_T35 HR0.out x6_1 p269 q269
       cases e269
       replace hx269_0 := clB HB.out hx269_0
       replace hx269_1 := clB HB.out hx269_1
       replace hx269_2 := clB HB.out hx269_2
       replace hx269_3 := clB HB.out hx269_3
       replace hx269_4 := clB HB.out hx269_4
       replace hx269_5 := clB HB.out hx269_5
       replace hx269_6 := clB HB.out hx269_6
       replace hx269_7 := clB HB.out hx269_7
       replace hx269_8 := clB HB.out hx269_8
       replace hx269_9 := clB HB.out hx269_9
       replace hx269_10 := clB HB.out hx269_10
       replace hx269_11 := clB HB.out hx269_11
       replace hx269_12 := clB HB.out hx269_12
       replace p269 := eq_true p269
       replace q269 := eq_true q269
       go_wp2_with (first | ((with_reducible refine gate_callee (f := 18) rfl ?_); refine goesL_ (some 21) rfl rfl Tryz.func18 (by kernel_rfl) rfl #[.agg #[.int .i64 ((rd_T35 l0 x6_1).f0), .string ((rd_T35 l0 x6_1).f1), .string ((rd_T35 l0 x6_1).f2), .bool ((rd_T35 l0 x6_1).f3.f0), .string ((rd_T35 l0 x6_1).f3.f1), .string ((rd_T35 l0 x6_1).f3.f2), .bool ((rd_T35 l0 x6_1).f4), .bool ((rd_T35 l0 x6_1).f5), .int .i64 ((rd_T35 l0 x6_1).f6.f0), .int .i64 ((rd_T35 l0 x6_1).f6.f1), .int .i64 ((rd_T35 l0 x6_1).f6.f2), .int .i64 ((rd_T35 l0 x6_1).f6.f3), .int .i64 ((rd_T35 l0 x6_1).f7)]] rfl agP ?_; (with_reducible refine (r17_quiet.calls ((rd_T35 l0 x6_1).f0) ((rd_T35 l0 x6_1).f1) ((rd_T35 l0 x6_1).f2) ((rd_T35 l0 x6_1).f3.f0) ((rd_T35 l0 x6_1).f3.f1) ((rd_T35 l0 x6_1).f3.f2) ((rd_T35 l0 x6_1).f4) ((rd_T35 l0 x6_1).f5) ((rd_T35 l0 x6_1).f6.f0) ((rd_T35 l0 x6_1).f6.f1) ((rd_T35 l0 x6_1).f6.f2) ((rd_T35 l0 x6_1).f6.f3) ((rd_T35 l0 x6_1).f7) false _ A6.out).mono ?_); rintro e w58 ⟨rfl, hb⟩; refine ⟨_, rfl, ?_⟩; have n0_ := Aside0.mk (Kd.R_below (rwP HO_3.out) hb); have n1_ := Aside0.mk (Kd.R_below (rwP HO_4.out) hb); have n2_ := Aside0.mk (below_step (hbP0 HB.out) hb); clear HO_3; clear HO_4; clear HB; have HO_3 := n0_; have HO_4 := n1_; have HB := n2_; clear n0_ n1_ n2_; (try clear hb); (try clear hb2); (try clear hk); (try clear hi); have p271 : 0 ≤ (x6_1 : Int) := of_decide_eq_true (by first | (with_reducible assumption) | assumption); have q271 : x6_1 < (l0.length : Int) := of_decide_eq_true (by first | (with_reducible assumption) | assumption); obtain ⟨ad271, e271, hx271_0, hx271_1, hx271_2, hx271_3, hx271_4, hx271_5, hx271_6, hx271_7, hx271_8, hx271_9, hx271_10, hx271_11, hx271_12⟩ := at_T35 HR0.out x6_1 p271 q271; obtain rfl : ad269 = ad271 := (by injection e271); replace hx271_0 := clB HB.out hx271_0; replace hx271_1 := clB HB.out hx271_1; replace hx271_2 := clB HB.out hx271_2; replace hx271_3 := clB HB.out hx271_3; replace hx271_4 := clB HB.out hx271_4; replace hx271_5 := clB HB.out hx271_5; replace hx271_6 := clB HB.out hx271_6; replace hx271_7 := clB HB.out hx271_7; replace hx271_8 := clB HB.out hx271_8; replace hx271_9 := clB HB.out hx271_9; replace hx271_10 := clB HB.out hx271_10; replace hx271_11 := clB HB.out hx271_11; replace hx271_12 := clB HB.out hx271_12; replace p271 := eq_true p271; replace q271 := eq_true q271) | ((with_reducible refine gate_dst (N := 28) rfl ?_); refine Kd.R_lit k35 _ 35 ?hg (N := 28) ?hd (xs := ([(⟨(rd_T35 l0 x6_1).f0, (rd_T35 l0 x6_1).f1, (rd_T35 l0 x6_1).f2, (⟨(rd_T35 l0 x6_1).f3.f0, (rd_T35 l0 x6_1).f3.f1, (rd_T35 l0 x6_1).f3.f2⟩ : S32), (rd_T35 l0 x6_1).f4, (rd_T35 l0 x6_1).f5, (⟨(rd_T35 l0 x6_1).f6.f0, (rd_T35 l0 x6_1).f6.f1, (rd_T35 l0 x6_1).f6.f2, (rd_T35 l0 x6_1).f6.f3⟩ : S33), (rd_T35 l0 x6_1).f7⟩ : S35)] : List (S35))) (inner := [.int .i64 ((rd_T35 l0 x6_1).f0), .string ((rd_T35 l0 x6_1).f1), .string ((rd_T35 l0 x6_1).f2), .bool ((rd_T35 l0 x6_1).f3.f0), .string ((rd_T35 l0 x6_1).f3.f1), .string ((rd_T35 l0 x6_1).f3.f2), .bool ((rd_T35 l0 x6_1).f4), .bool ((rd_T35 l0 x6_1).f5), .int .i64 ((rd_T35 l0 x6_1).f6.f0), .int .i64 ((rd_T35 l0 x6_1).f6.f1), .int .i64 ((rd_T35 l0 x6_1).f6.f2), .int .i64 ((rd_T35 l0 x6_1).f6.f3), .int .i64 ((rd_T35 l0 x6_1).f7)]) (ok := fun _ => True) (okp := fun _ => True) ?hr ?hp (fun _ hk => hk) trivial (Below.refl _ _) (Nat.le_refl _) (by simp) ?_; (case hd => rfl); (case hg => rfl); (case hr => first | (go_simp; done) | (go_simp; rfl)); (case hp => exact (Reps.front (show Kd.M k35 _ _ _ (⟨(rd_T35 l0 x6_1).f0, (rd_T35 l0 x6_1).f1, (rd_T35 l0 x6_1).f2, (⟨(rd_T35 l0 x6_1).f3.f0, (rd_T35 l0 x6_1).f3.f1, (rd_T35 l0 x6_1).f3.f2⟩ : S32), (rd_T35 l0 x6_1).f4, (rd_T35 l0 x6_1).f5, (⟨(rd_T35 l0 x6_1).f6.f0, (rd_T35 l0 x6_1).f6.f1, (rd_T35 l0 x6_1).f6.f2, (rd_T35 l0 x6_1).f6.f3⟩ : S33), (rd_T35 l0 x6_1).f7⟩ : S35) [.int .i64 ((rd_T35 l0 x6_1).f0), .string ((rd_T35 l0 x6_1).f1), .string ((rd_T35 l0 x6_1).f2), .bool ((rd_T35 l0 x6_1).f3.f0), .string ((rd_T35 l0 x6_1).f3.f1), .string ((rd_T35 l0 x6_1).f3.f2), .bool ((rd_T35 l0 x6_1).f4), .bool ((rd_T35 l0 x6_1).f5), .int .i64 ((rd_T35 l0 x6_1).f6.f0), .int .i64 ((rd_T35 l0 x6_1).f6.f1), .int .i64 ((rd_T35 l0 x6_1).f6.f2), .int .i64 ((rd_T35 l0 x6_1).f6.f3), .int .i64 ((rd_T35 l0 x6_1).f7)] from (k35_mkM _ _ _ (⟨(rd_T35 l0 x6_1).f0, (rd_T35 l0 x6_1).f1, (rd_T35 l0 x6_1).f2, (⟨(rd_T35 l0 x6_1).f3.f0, (rd_T35 l0 x6_1).f3.f1, (rd_T35 l0 x6_1).f3.f2⟩ : S32), (rd_T35 l0 x6_1).f4, (rd_T35 l0 x6_1).f5, (⟨(rd_T35 l0 x6_1).f6.f0, (rd_T35 l0 x6_1).f6.f1, (rd_T35 l0 x6_1).f6.f2, (rd_T35 l0 x6_1).f6.f3⟩ : S33), (rd_T35 l0 x6_1).f7⟩ : S35) )) rfl (Reps.none _ _) rfl)); intro v273 w59 ho60 hb hg_ hnew_; clear hg_ hnew_; (first | rw [← Ny272.out] at ho60 | (simp only [Int.reduceToNat] at ho60; rw [← Ny272.out] at ho60)); have n0_ := Aside0.mk (Kd.R_below (rwP HO_3.out) hb); have n1_ := Aside0.mk (Kd.R_elder' (rwP HO_4.out) (Kd.R_base ho60) hb); have n2_ := Aside0.mk (Kd.R_lower (Kd.R_new' ho60 (Kd.R_lt (rwP HO_4.out))) (below_size (hbP0 HB.out))); have n3_ := Aside0.mk (below_step (hbP0 HB.out) hb); clear HO_3; clear HO_4; clear HB; have HO_3 := n0_; have HO_4 := n1_; have HO274 := n2_; have HB := n3_; clear n0_ n1_ n2_ n3_; clear hb ho60; obtain ⟨Ao62, co62, eo62⟩ := Kd.R_slice HO274.out; subst eo62) | ((with_reducible refine gate_builtin (b := .append) (xs := #[.tmp 23, .tmp 28]) rfl ?_); at_builtin; refine Kd.R_append_rows k35 (w0 := w) w.heap.size rfl (.tmp 23) (.tmp 28) 25 35 (.agg #[(.int .i64 0), (.string ⟨#[]⟩), (.string ⟨#[]⟩), (.bool false), (.string ⟨#[]⟩), (.string ⟨#[]⟩), (.bool false), (.bool false), (.int .i64 0), (.int .i64 0), (.int .i64 0), (.int .i64 0), (.int .i64 0)]) 128 rfl Tryz.underlying25 info35 rfl (by decide) (by omega) u4 x4_1 y272 _ _ _ (fun k_ => some k_ ≠ (.slice Ao62 y272.length co62 : Value).ownBlock) (fun _ => False) rfl rfl ?aO ?aR (fun _ _ h => h) (fun _ h => h.elim) ?aF ?aB ?aS ?aL ?_; (case aR => repeat (first | exact (Kd.R_reads' HO274.out).2.2 | (with_reducible refine Kd.C_alloc ?_ _) | (with_reducible refine Kd.C_drewN ?_ _) | (with_reducible refine Kd.C_drew ?_))); (case aB => exact (hbP0 HB.out)); (case aF => exact (fun k_ hk => Kd.fresh' (Kd.R_lt (rwP HO274.out)) k_ hk)); (case aO => exact (by (with_reducible repeat (first | apply Kd.R_alloc | apply Kd.R_drewN | apply Kd.R_drew)); exact Kd.R_mono HO_4.out (fun _ hk => hk.2))); (case aS => exact (below_size (hbP0 HB.out))); (case aL => have := LMc57.out; omega); intro v276 w61 ho hb hg hat; rw [← Ny275.out] at ho; have n0_ := Aside0.mk (Kd.R_over' (rwP HO_3.out) (Kd.R_typed (rwP HO_4.out)) (by decide) hg); have n1_ := Aside0.mk (Kd.R_after (ok := (fun _ => True)) (rwP HO274.out) hg hat); have n2_ := Aside0.mk (hb); have n3_ := Aside0.mk (ho); clear HO_3; clear HO274; clear HB; clear HO_4; have HO_3 := n0_; have HO274 := n1_; have HB := n2_; have HO277 := n3_; clear n0_ n1_ n2_ n3_; clear ho hb hg hat))
       go_roundg k1
       case measure => have := HK1.out; omega
       case rel => exact ⟨(y275), (x6_1), (wrap64 (x6_1 + 1)), vqP, vqP, H', ⟨by have := HK1.out; omega⟩, ⟨rwP HO_3.out⟩, ⟨by (with_reducible repeat (first | apply Kd.R_alloc | apply Kd.R_drewN | apply Kd.R_drew)); exact Kd.R_mono HO277.out (fun _ hk => trivial)⟩, ⟨hbP0 HB.out⟩⟩
      ·rw [if_neg c57] at H
       exact absurd H (by simp)
    ·rw [if_neg c5] at H
     exact absurd H (by simp)
   ·rw [if_neg c4] at H
    have c4b0 : decide (x6_1 < (l0.length : Int)) = false := decide_eq_false c4
    clear c4
    obtain rfl := Option.some.inj H
    go_wp2
    go_ret
    exact ⟨_, by first | rfl | (simp [errW_none, errW_some] <;> rfl) | (simp [*, errW_none, errW_some] <;> rfl), by exact rwP HO_4.out, hbP0 HB.out⟩
end Go.Proofs.YthonpnaccjajcaaGreatDoor.P
