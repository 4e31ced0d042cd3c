import Derived.Test.YthonpnaccjajcaaGreatDoorColourWherePx10
import Derived.Test.YthonpnaccjajcaaGreatDoorColourWherePx12
import Derived.Test.YthonpnaccjajcaaGreatDoorColourWherePx13
import Derived.Test.YthonpnaccjajcaaGreatDoorColourWhereExtClone
import Derived.Test.YthonpnaccjajcaaGreatDoorColourWhereExtColR
namespace Go.Proofs.YthonpnaccjajcaaGreatDoor.P
open Go.RowKit Go.Proofs.YthonpnaccjajcaaGreatDoorW.PrintWords Go.Proofs.YthonpnaccjajcaaGreatDoorW.PrintLast Go.Proofs.YthonpnaccjajcaaGreatDoorW.PrintMore Go.Proofs.YthonpnaccjajcaaGreatDoorX
attribute [local go_sem] max2_int min2_int max_two min_two max_three min_three max_four min_four
set_option linter.unusedVariables false
set_option linter.unusedSimpArgs false
mutual
def colour_Mark.l0 : Nat → List (S35) → List (S35) → List (S46) → List Int → Int → Int → Option ((List (S35)))
 | 0, _, _, _, _, _, _ => none
 | k + 1, x0, x3, x4, x15, x16, x17 => if x17 < x16 then (if 0 ≤ x17 then (if x17 < (x15.length : Int) then ((colour_name.f k x0 (rd x15 x17)).bind fun t182 => ((colour_coloured.f k t182).bind fun t183 => (if t183 = true then (colour_Mark.l1 k x0 x3 x4 (rd x15 x17) (wrap64 ((rd x15 x17) + 1)) x15 x16 x17) else (colour_Mark.l0 k x0 x3 x4 x15 x16 (wrap64 (x17 + 1)))))) else (none)) else (none)) else (some x3)
def colour_Mark.l1 : Nat → List (S35) → List (S35) → List (S46) → Int → Int → List Int → Int → Int → Option ((List (S35)))
 | 0, _, _, _, _, _, _, _, _ => none
 | k + 1, x0, x3, x4, x6, x7, x15, x16, x17 => if x7 < (x0.length : Int) then (if 0 ≤ x7 then (if x7 < (x4.length : Int) then (if 0 ≤ x6 then (if x6 < (x4.length : Int) then (colour_Mark.j2 k x0 x3 x4 x6 x7 x15 x16 x17 (decide (((rd_T46 x4 x7).f0) ≥ ((rd_T46 x4 x6).f0)))) else (none)) else (none)) else (none)) else (none)) else (colour_Mark.j2 k x0 x3 x4 x6 x7 x15 x16 x17 false)
def colour_Mark.j2 : Nat → List (S35) → List (S35) → List (S46) → Int → Int → List Int → Int → Int → Bool → Option ((List (S35)))
 | 0, _, _, _, _, _, _, _, _, _ => none
 | k + 1, x0, x3, x4, x6, x7, x15, x16, x17, x44 => if x44 = true then (if 0 ≤ x7 then (if x7 < (x4.length : Int) then (if 0 ≤ x6 then (if x6 < (x4.length : Int) then (if ((rd_T46 x4 x7).f0) > ((rd_T46 x4 x6).f0) then (colour_Mark.l1 k x0 x3 x4 x6 (wrap64 (x7 + 1)) x15 x16 x17) else (if x7 < (x0.length : Int) then (if ((rd_T35 x0 x7).f0) = 17 then (colour_Mark.l0 k x0 x3 x4 x15 x16 (wrap64 (x17 + 1))) else ((colour_Read.f ((rd_T35 x0 x7).f0) ((rd_T35 x0 x7).f1) ((rd_T35 x0 x7).f2) ((rd_T35 x0 x7).f3.f0) ((rd_T35 x0 x7).f3.f1) ((rd_T35 x0 x7).f3.f2) ((rd_T35 x0 x7).f4) ((rd_T35 x0 x7).f5) ((rd_T35 x0 x7).f6.f0) ((rd_T35 x0 x7).f6.f1) ((rd_T35 x0 x7).f6.f2) ((rd_T35 x0 x7).f6.f3) ((rd_T35 x0 x7).f7)).bind fun bt190 => (if bt190.2.2.2.2 = true then (if x7 < (x3.length : Int) then (colour_Mark.l1 k x0 (x3.set (x7 : Int).toNat (⟨26, (⟨#[]⟩ : ByteArray), (⟨#[]⟩ : ByteArray), (⟨false, (⟨#[]⟩ : ByteArray), (⟨#[]⟩ : ByteArray)⟩ : S32), false, false, (⟨bt190.1, bt190.2.1, bt190.2.2.1, bt190.2.2.2.1⟩ : S33), (rd_T35 x0 x7).f7⟩ : S35)) x4 x6 (wrap64 (x7 + 1)) x15 x16 x17) else (none)) else (colour_Mark.l1 k x0 x3 x4 x6 (wrap64 (x7 + 1)) x15 x16 x17)))) else (none))) else (none)) else (none)) else (none)) else (none)) else (colour_Mark.l0 k x0 x3 x4 x15 x16 (wrap64 (x17 + 1)))
end
def colour_Mark.f (k : Nat) (l0 : List (S35)) : Option ((List (S35))) := (slices_Clone_CTok.f l0).bind fun t172 => ((cvalue_Places.f k l0).bind fun t175 => ((cvalue_Colons.f k l0).bind fun t178 => (colour_Mark.l0 k l0 t172 t175 t178 (t178.length : Int) 0)))
def colour_Mark.T8 : Bool × List (List Nat × List Nat) := (true, [([], []), ([], []), ([1], [1]), ([0, 2], [0, 2]), ([3], [3]), ([4], [4]), ([4], [4]), ([5, 6, 4], [4, 5, 6]), ([7, 4], [4, 7]), ([8, 4], [4, 8]), ([4], [4]), ([4], [4]), ([10, 11, 4], [4, 10, 11]), ([12, 4], [4, 12]), ([13, 4], [4, 13]), ([9, 14, 4], [4, 9, 14]), ([4, 15], [4, 15])])
def colour_Mark.B8 : List Nat := [0, 0, 2, 7, 15, 31, 31, 127, 255, 511, 31, 31, 3103, 7199, 15391, 32767, 65535]
theorem colour_Mark.tab8 : rtab .any (opsOf Tryz.f5 8) = colour_Mark.T8 := by kernel_rfl
theorem colour_Mark.bits8 : waitsOk colour_Mark.T8.2 colour_Mark.B8 = true := by kernel_rfl
def colour_Mark.T10 : Bool × List (List Nat × List Nat) := (true, [([], []), ([], []), ([0, 1], [0, 1]), ([2], [2]), ([3], [3]), ([], []), ([], []), ([5, 6], [5, 6]), ([7], [7]), ([8], [8]), ([4, 9], [4, 9])])
def colour_Mark.B10 : List Nat := [0, 0, 3, 7, 15, 0, 0, 96, 224, 480, 1023]
theorem colour_Mark.tab10 : rtab .any (opsOf Tryz.f5 10) = colour_Mark.T10 := by kernel_rfl
theorem colour_Mark.bits10 : waitsOk colour_Mark.T10.2 colour_Mark.B10 = true := by kernel_rfl
def colour_Mark.T14 : Bool × List (List Nat × List Nat) := (true, [([], []), ([], []), ([], []), ([], []), ([], []), ([3, 4], [3, 4]), ([5], [5]), ([6], [6]), ([2, 7], [2, 7]), ([0, 1, 0, 1, 2, 3, 4, 5, 6, 7, 8], [0, 1]), ([9, 8, 0, 1, 2, 3, 4, 5, 6, 7, 8], [8, 9])])
def colour_Mark.B14 : List Nat := [0, 0, 0, 0, 0, 24, 56, 120, 252, 511, 1023]
theorem colour_Mark.tab14 : rtab .any (opsOf Tryz.f5 14) = colour_Mark.T14 := by kernel_rfl
theorem colour_Mark.bits14 : waitsOk colour_Mark.T14.2 colour_Mark.B14 = true := by kernel_rfl
set_option maxHeartbeats 8000000 in
set_option maxRecDepth 100000 in
theorem colour_Mark.calls (k : Nat) (A0 : Option Addr) (c0 : Nat) (l0 : List (S35)) (r : List (S35)) (w : World) (hr0 : Kd.C k35 w A0 l0.length l0) (hc0 : l0.length ≤ c0) (hL : LaidW w) (h : colour_Mark.f k l0 = some r) :
  Calls Tryz.prog 5 #[.slice A0 l0.length c0] w fun e w' => ∃ v0_ : Value, e = .returned (v0_) ∧ Kd.R k35 35 w' w.heap.size (fun _ => True) v0_ r ∧ Below w.heap.size w w' := by
 have hu35 := Tryz.underlying35
 have hu33 := Tryz.underlying33
 have HR0 := Aside0.mk hr0
 have HC0 := Aside0.mk hc0
 clear hr0 hc0
 have HB := Aside0.mk (Below.refl w.heap.size w)
 have H : ((slices_Clone_CTok.f l0).bind fun t172 => ((cvalue_Places.f k l0).bind fun t175 => ((cvalue_Colons.f k l0).bind fun t178 => (colour_Mark.l0 k l0 t172 t175 t178 (t178.length : Int) 0)))) = some r := h
 clear h
 replace H := Option.bind_eq_some_iff.mp H
 obtain ⟨t172, A20, H⟩ := H
 replace H : ((cvalue_Places.f k l0).bind fun t175 => ((cvalue_Colons.f k l0).bind fun t178 => (colour_Mark.l0 k l0 t172 t175 t178 (t178.length : Int) 0))) = some r := H
 have A2 := Aside0.mk A20
 clear A20
 replace H := Option.bind_eq_some_iff.mp H
 obtain ⟨t175, A30, H⟩ := H
 replace H : ((cvalue_Colons.f k l0).bind fun t178 => (colour_Mark.l0 k l0 t172 t175 t178 (t178.length : Int) 0)) = some r := H
 have A3 := Aside0.mk A30
 clear A30
 replace H := Option.bind_eq_some_iff.mp H
 obtain ⟨t178, A40, H⟩ := H
 replace H : (colour_Mark.l0 k l0 t172 t175 t178 (t178.length : Int) 0) = some r := H
 have A4 := Aside0.mk A40
 clear A40
 have H' := Aside0.mk H
 clear H
 go_enter Tryz.func5, Tryz.ntmps5
 go_wp2_with (first | ((with_reducible refine gate_callee (f := 11) rfl ?_); refine goesL_ (some 11) rfl rfl Tryz.func11 (by kernel_rfl) rfl #[.slice A0 l0.length c0] rfl agP ?_; (with_reducible refine (slices_Clone_CTok.calls _ _ l0 t172 _ ?side1 ?side2 A2.out).mono ?_); (case side1 => repeat (first | exact HR0.out | (with_reducible refine Kd.C_alloc ?_ _) | (with_reducible refine Kd.C_drewN ?_ _) | (with_reducible refine Kd.C_drew ?_))); (case side2 => exact HC0.out); rintro e w5 ⟨v173, rfl, ho0, hb⟩; refine ⟨_, rfl, ?_⟩; have n0_ := Aside0.mk (Kd.R_lower ho0 (below_size (hbP0 HB.out))); have n1_ := Aside0.mk (below_step (hbP0 HB.out) hb); clear HB; have HO174 := n0_; have HB := n1_; clear n0_ n1_; (try clear hb); (try clear hb2); (try clear hk); (try clear hi); (try clear ho0)) | ((with_reducible refine gate_callee (f := 12) rfl ?_); refine goesL_ (some 13) rfl rfl Tryz.func12 (by kernel_rfl) rfl #[.slice A0 l0.length c0] rfl agP ?_; (with_reducible refine (cvalue_Places.calls k _ _ l0 t175 _ ?side1 ?side2 A3.out).mono ?_); (case side1 => repeat (first | exact (Kd.C_below HR0.out HB.out) | (with_reducible refine Kd.C_alloc ?_ _) | (with_reducible refine Kd.C_drewN ?_ _) | (with_reducible refine Kd.C_drew ?_))); (case side2 => exact HC0.out); rintro e w6 ⟨v176, rfl, ho0, hb⟩; refine ⟨_, rfl, ?_⟩; have n0_ := Aside0.mk (Kd.R_below (rwP HO174.out) hb); have n1_ := Aside0.mk (Kd.R_lower ho0 (below_size (hbP0 HB.out))); have n2_ := Aside0.mk (below_step (hbP0 HB.out) hb); clear HO174; clear HB; have HO174 := n0_; have HO177 := n1_; have HB := n2_; clear n0_ n1_ n2_; (try clear hb); (try clear hb2); (try clear hk); (try clear hi); (try clear ho0)) | ((with_reducible refine gate_callee (f := 13) rfl ?_); refine goesL_ (some 15) rfl rfl Tryz.func13 (by kernel_rfl) rfl #[.slice A0 l0.length c0] rfl agP ?_; (with_reducible refine (cvalue_Colons.calls k _ _ l0 t178 _ ?side1 ?side2 A4.out).mono ?_); (case side1 => repeat (first | exact (Kd.C_below HR0.out HB.out) | (with_reducible refine Kd.C_alloc ?_ _) | (with_reducible refine Kd.C_drewN ?_ _) | (with_reducible refine Kd.C_drew ?_))); (case side2 => exact HC0.out); rintro e w7 ⟨v179, rfl, ho0, hb⟩; refine ⟨_, rfl, ?_⟩; have n0_ := Aside0.mk (Kd.R_below (rwP HO174.out) hb); have n1_ := Aside0.mk (Kd.R_below (rwP HO177.out) hb); have n2_ := Aside0.mk (Kd.R_lower ho0 (below_size (hbP0 HB.out))); have n3_ := Aside0.mk (below_step (hbP0 HB.out) hb); clear HO174; clear HO177; clear HB; have HO174 := n0_; have HO177 := n1_; have HO180 := n2_; have HB := n3_; clear n0_ n1_ n2_ n3_; (try clear hb); (try clear hb2); (try clear hk); (try clear hi); (try clear ho0); obtain ⟨Ao8, co8, eo8⟩ := Kd.R_slice HO180.out; subst eo8))
 go_loopg [17] k (fun kq v17 w' => ∃ (x3_1 : List (S35)) (x17_1 : Int), v17 = .int .i64 x17_1 ∧ Aside0 (colour_Mark.l0 kq l0 x3_1 t175 t178 (t178.length : Int) x17_1 = some r) ∧ Aside0 (kq ≤ k) ∧ Aside0 (Kd.R k35 35 w' w.heap.size (fun _ => True) v173 x3_1) ∧ Aside0 (Kd.R k46 46 w' w.heap.size (fun _ => True) v176 t175) ∧ Aside0 (Kd.R (Kd.int .i64) 3 w' w.heap.size (fun _ => True) (.slice Ao8 t178.length co8) t178) ∧ Aside0 (Below w.heap.size w w'))
 case atStart => exact ⟨(t172), (0), vqP, H', ⟨Nat.le_refl _⟩, ⟨rwP HO174.out⟩, ⟨rwP HO177.out⟩, ⟨rwP HO180.out⟩, ⟨hbP0 HB.out⟩⟩
 case round =>
  clear H'
  obtain ⟨x3_1, x17_1, rfl, HA, HK1, HO_3, HO_4, HO_15, HB⟩ := hrel
  cases gk with
  | zero => exact absurd HA.out (by simp [colour_Mark.l0])
  | succ k1 =>
   have H := HA.out
   clear HA
   simp only [colour_Mark.l0] at H
   by_cases c9 : x17_1 < (t178.length : Int)
   ·rw [if_pos c9] at H
    have c9b0 : decide (x17_1 < (t178.length : Int)) = true := decide_eq_true c9
    clear c9
    by_cases c10 : 0 ≤ x17_1
    ·rw [if_pos c10] at H
     have c10b0 : decide (0 ≤ x17_1) = true := decide_eq_true c10
     clear c10
     by_cases c11 : x17_1 < (t178.length : Int)
     ·rw [if_pos c11] at H
      have c11b0 : decide (x17_1 < (t178.length : Int)) = true := decide_eq_true c11
      clear c11
      replace H := Option.bind_eq_some_iff.mp H
      obtain ⟨t182, A120, H⟩ := H
      replace H : ((colour_coloured.f k1 t182).bind fun t183 => (if t183 = true then (colour_Mark.l1 k1 l0 x3_1 t175 (rd t178 x17_1) (wrap64 ((rd t178 x17_1) + 1)) t178 (t178.length : Int) x17_1) else (colour_Mark.l0 k1 l0 x3_1 t175 t178 (t178.length : Int) (wrap64 (x17_1 + 1))))) = some r := H
      have A12 := Aside0.mk A120
      clear A120
      replace H := Option.bind_eq_some_iff.mp H
      obtain ⟨t183, A130, H⟩ := H
      replace H : (if t183 = true then (colour_Mark.l1 k1 l0 x3_1 t175 (rd t178 x17_1) (wrap64 ((rd t178 x17_1) + 1)) t178 (t178.length : Int) x17_1) else (colour_Mark.l0 k1 l0 x3_1 t175 t178 (t178.length : Int) (wrap64 (x17_1 + 1)))) = some r := H
      have A13 := Aside0.mk A130
      clear A130
      by_cases c14 : t183 = true
      ·subst c14
       have H1 : (colour_Mark.l1 k1 l0 x3_1 t175 (rd t178 x17_1) (wrap64 ((rd t178 x17_1) + 1)) t178 (t178.length : Int) x17_1) = some r := by rw [if_pos rfl] at H; exact H
       clear H
       have H := H1
       clear H1
       have H' := Aside0.mk H
       clear H
       have p181 : 0 ≤ (x17_1 : Int) := of_decide_eq_true (by first | (with_reducible assumption) | assumption)
       have q181 : x17_1 < (t178.length : Int) := of_decide_eq_true (by first | (with_reducible assumption) | assumption)
       obtain ⟨ad181, e181, hx181_0⟩ := Kd.at_int (Kd.R_reads' HO_15.out).2.2 x17_1 p181 q181
       cases e181
       replace p181 := eq_true p181
       replace q181 := eq_true q181
       go_wp2_with (first | ((with_reducible refine gate_callee (f := 15) rfl ?_); refine goesL_ (some 23) rfl rfl Tryz.func15 (by kernel_rfl) rfl #[.slice A0 l0.length c0, .int .i64 (rd t178 x17_1)] rfl agP ?_; (with_reducible refine (colour_name.calls k1 _ _ l0 (rd t178 x17_1) t182 _ ?side1 ?side2 A12.out).mono ?_); (case side1 => repeat (first | exact (Kd.C_below HR0.out HB.out) | (with_reducible refine Kd.C_alloc ?_ _) | (with_reducible refine Kd.C_drewN ?_ _) | (with_reducible refine Kd.C_drew ?_))); (case side2 => exact HC0.out); rintro e w15 ⟨rfl, hb⟩; refine ⟨_, rfl, ?_⟩; have n0_ := Aside0.mk (Kd.R_below (rwP HO_3.out) hb); have n1_ := Aside0.mk (Kd.R_below (rwP HO_4.out) hb); have n2_ := Aside0.mk (Kd.R_below (rwP HO_15.out) hb); have n3_ := Aside0.mk (below_step (hbP0 HB.out) hb); clear HO_3; clear HO_4; clear HO_15; clear HB; have HO_3 := n0_; have HO_4 := n1_; have HO_15 := n2_; have HB := n3_; clear n0_ n1_ n2_ n3_; (try clear hb); (try clear hb2); (try clear hk); (try clear hi)) | ((with_reducible refine gate_callee (f := 14) rfl ?_); refine goesL_ (some 24) rfl rfl Tryz.func14 (by kernel_rfl) rfl #[.string t182] rfl agP ?_; (with_reducible refine (colour_coloured.calls k1 t182 true _ ?side1 A13.out).mono ?_); (case side1 => first | exact hL | exact LaidW.below hL (hbP0 HB.out) | (repeat (first | exact hL | apply LaidW.drewN | apply LaidW.drew))); rintro e w16 ⟨rfl, hb⟩; refine ⟨_, rfl, ?_⟩; have n0_ := Aside0.mk (Kd.R_below (rwP HO_3.out) hb); have n1_ := Aside0.mk (Kd.R_below (rwP HO_4.out) hb); have n2_ := Aside0.mk (Kd.R_below (rwP HO_15.out) hb); have n3_ := Aside0.mk (below_step (hbP0 HB.out) hb); clear HO_3; clear HO_4; clear HO_15; clear HB; have HO_3 := n0_; have HO_4 := n1_; have HO_15 := n2_; have HB := n3_; clear n0_ n1_ n2_ n3_; (try clear hb); (try clear hb2); (try clear hk); (try clear hi)))
       go_loopg [7] k1 (fun kq v7 w' => ∃ (x3_2 : List (S35)) (x7_2 : Int), v7 = .int .i64 x7_2 ∧ Aside0 (colour_Mark.l1 kq l0 x3_2 t175 (rd t178 x17_1) x7_2 t178 (t178.length : Int) x17_1 = some r) ∧ Aside0 (kq ≤ k1) ∧ Aside0 (Kd.R k35 35 w' w.heap.size (fun _ => True) v173 x3_2) ∧ Aside0 (Kd.R k46 46 w' w.heap.size (fun _ => True) v176 t175) ∧ Aside0 (Kd.R (Kd.int .i64) 3 w' w.heap.size (fun _ => True) (.slice (some ad181) t178.length co8) t178) ∧ Aside0 (Below w.heap.size w w'))
       case atStart => exact ⟨(x3_1), (wrap64 ((rd t178 x17_1) + 1)), vqP, H', ⟨Nat.le_refl _⟩, ⟨rwP HO_3.out⟩, ⟨rwP HO_4.out⟩, ⟨rwP HO_15.out⟩, ⟨hbP0 HB.out⟩⟩
       case round =>
        clear H'
        obtain ⟨x3_2, x7_2, rfl, HA, HK2, HO_3, HO_4, HO_15, HB⟩ := hrel
        cases gk with
        | zero => exact absurd HA.out (by simp [colour_Mark.l1])
        | succ k2 =>
         have H := HA.out
         clear HA
         simp only [colour_Mark.l1] at H
         have HC17 := Aside0.mk H
         clear H
         go_upto_region 8 with (fail)
         go_cut [44] (fun v44 wc => ∃ (kq : Nat) (x44_16 : Bool), v44 = .bool x44_16 ∧ Aside0 (colour_Mark.j2 kq l0 x3_2 t175 (rd t178 x17_1) x7_2 t178 (t178.length : Int) x17_1 x44_16 = some r) ∧ Aside0 (kq ≤ k2) ∧ Aside0 (Kd.R k35 35 wc w.heap.size (fun _ => True) v173 x3_2) ∧ Aside0 (Kd.R k46 46 wc w.heap.size (fun _ => True) v176 t175) ∧ Aside0 (Kd.R (Kd.int .i64) 3 wc w.heap.size (fun _ => True) (.slice (some ad181) t178.length co8) t178) ∧ Aside0 (Below w.heap.size w wc))
         case first => as_aux_lemma =>
          have H := HC17.out
          clear HC17
          by_cases c18 : x7_2 < (l0.length : Int)
          ·rw [if_pos c18] at H
           have c18b0 : decide (x7_2 < (l0.length : Int)) = true := decide_eq_true c18
           clear c18
           (first | rw [c18b0] | (simp only [i64_w, i32_w]; rw [c18b0]) | skip)
           by_cases c19 : 0 ≤ x7_2
           ·rw [if_pos c19] at H
            have c19b0 : decide (0 ≤ x7_2) = true := decide_eq_true c19
            clear c19
            by_cases c20 : x7_2 < (t175.length : Int)
            ·rw [if_pos c20] at H
             have c20b0 : decide (x7_2 < (t175.length : Int)) = true := decide_eq_true c20
             clear c20
             by_cases c21 : 0 ≤ (rd t178 x17_1)
             ·rw [if_pos c21] at H
              have c21b0 : decide (0 ≤ (rd t178 x17_1)) = true := decide_eq_true c21
              clear c21
              by_cases c22 : (rd t178 x17_1) < (t175.length : Int)
              ·rw [if_pos c22] at H
               have c22b0 : decide ((rd t178 x17_1) < (t175.length : Int)) = true := decide_eq_true c22
               clear c22
               have H' := Aside0.mk H
               clear H
               try go_wp2
               have n0_ := Aside0.mk (Kd.R_drew HO_3.out)
               have n1_ := Aside0.mk (Kd.R_drew HO_4.out)
               have n2_ := Aside0.mk (Kd.R_drew HO_15.out)
               have n3_ := Aside0.mk (below_drew1 HB.out)
               clear HO_3
               clear HO_4
               clear HO_15
               clear HB
               have HO_3 := n0_
               have HO_4 := n1_
               have HO_15 := n2_
               have HB := n3_
               clear n0_ n1_ n2_ n3_
               obtain ⟨Ao24, co24, eo24⟩ := Kd.R_slice HO_4.out
               (first | subst eo24 | (injection eo24 with f1_ f2_ f3_; have f4_ := f1_.symm; have f5_ := f3_.symm; clear f1_ f2_ f3_; subst f4_; subst f5_))
               have p184 : 0 ≤ (x7_2 : Int) := of_decide_eq_true (by first | (with_reducible assumption) | assumption)
               have q184 : x7_2 < (t175.length : Int) := of_decide_eq_true (by first | (with_reducible assumption) | assumption)
               obtain ⟨ad184, e184, hx184_0, hx184_1, hx184_2⟩ := at_T46 (Kd.R_reads' HO_4.out).2.2 x7_2 p184 q184
               cases e184
               replace p184 := eq_true p184
               replace q184 := eq_true q184
               have p185 : 0 ≤ ((rd t178 x17_1) : Int) := of_decide_eq_true (by first | (with_reducible assumption) | assumption)
               have q185 : (rd t178 x17_1) < (t175.length : Int) := of_decide_eq_true (by first | (with_reducible assumption) | assumption)
               obtain ⟨ad185, e185, hx185_0, hx185_1, hx185_2⟩ := at_T46 (Kd.R_reads' HO_4.out).2.2 (rd t178 x17_1) p185 q185
               obtain rfl : ad184 = ad185 := (by injection e185)
               replace p185 := eq_true p185
               replace q185 := eq_true q185
               refine start_ (n := 17) (S := fun w' => w'.cell? (ad184.add ((x7_2).toNat * 3)) = some (.int .i64 ((rd_T46 t175 x7_2).f0)) ∧ w'.cell? ⟨(ad184.add ((x7_2).toNat * 3)).block, (ad184.add ((x7_2).toNat * 3)).off + 1, none⟩ = some (.bool ((rd_T46 t175 x7_2).f1)) ∧ w'.cell? ⟨(ad184.add ((x7_2).toNat * 3)).block, (ad184.add ((x7_2).toNat * 3)).off + 2, none⟩ = some (.bool ((rd_T46 t175 x7_2).f2)) ∧ w'.cell? (ad184.add (((rd t178 x17_1)).toNat * 3)) = some (.int .i64 ((rd_T46 t175 (rd t178 x17_1)).f0)) ∧ w'.cell? ⟨(ad184.add (((rd t178 x17_1)).toNat * 3)).block, (ad184.add (((rd t178 x17_1)).toNat * 3)).off + 1, none⟩ = some (.bool ((rd_T46 t175 (rd t178 x17_1)).f1)) ∧ w'.cell? ⟨(ad184.add (((rd t178 x17_1)).toNat * 3)).block, (ad184.add (((rd t178 x17_1)).toNat * 3)).off + 2, none⟩ = some (.bool ((rd_T46 t175 (rd t178 x17_1)).f2))) (ds := []) #[false, false, false, false, false, false, false, false, false, false, false, false, false, false, false, false, false] (by kernel_rfl) rfl rfl ⟨hx184_0, hx184_1, hx184_2, hx185_0, hx185_1, hx185_2⟩ (fun hHeld => ?_); refine with_tabW colour_Mark.tab8 colour_Mark.bits8 (fun HT_ HW_ => ?_)
               generalize wr.drew = w23 at HO_3 HO_4 HO_15 HB hx184_0 hx184_1 hx184_2 hx185_0 hx185_1 hx185_2 hHeld ⊢
               refine pure_ (i := 0) (N := some 28) (v := ?_) (a' := ?_) #[true, false, false, false, false, false, false, false, false, false, false, false, false, false, false, false, false] rfl rfl (any_of HT_.out (by kernel_rfl)) (fun _ _ _ h => h) (Or.inl ⟨by rfl, ?_⟩) ?_ ?_
               rotate_left
               ·intro w'
                go_simp
                with_reducible rfl
               rotate_left
               ·simp only [Act.put, List.setIfInBounds_toArray, List.set_cons_zero, List.set_cons_succ, i64_w, i32_w]
                rfl
               refine pure_ (i := 1) (N := some 29) (v := ?_) (a' := ?_) #[true, true, false, false, false, false, false, false, false, false, false, false, false, false, false, false, false] rfl rfl (any_of HT_.out (by kernel_rfl)) (fun _ _ _ h => h) (Or.inl ⟨by rfl, ?_⟩) ?_ ?_
               rotate_left
               ·intro w'
                go_simp
                with_reducible rfl
               rotate_left
               ·simp only [Act.put, List.setIfInBounds_toArray, List.set_cons_zero, List.set_cons_succ, i64_w, i32_w]
                rfl
               refine pure_ (i := 2) (N := some 30) (v := ?_) (a' := ?_) #[true, true, true, false, false, false, false, false, false, false, false, false, false, false, false, false, false] rfl rfl (any_of HT_.out (by kernel_rfl)) (fun _ _ _ h => h) (Or.inl ⟨by rfl, ?_⟩) ?_ ?_
               rotate_left
               ·intro w'
                go_simp
                with_reducible rfl
               rotate_left
               ·simp only [Act.put, List.setIfInBounds_toArray, List.set_cons_zero, List.set_cons_succ, i64_w, i32_w]
                rfl
               refine pure_ (i := 3) (N := some 31) (v := ?_) (a' := ?_) #[true, true, true, true, false, false, false, false, false, false, false, false, false, false, false, false, false] rfl rfl (any_of HT_.out (by kernel_rfl)) (fun _ _ _ h => h) (Or.inl ⟨by rfl, ?_⟩) ?_ ?_
               rotate_left
               ·intro w'
                go_simp
                with_reducible rfl
               rotate_left
               ·simp only [Act.put, List.setIfInBounds_toArray, List.set_cons_zero, List.set_cons_succ, i64_w, i32_w]
                rfl
               refine pure_ (i := 4) (N := some 32) (v := ?_) (a' := ?_) #[true, true, true, true, true, false, false, false, false, false, false, false, false, false, false, false, false] rfl rfl (any_of HT_.out (by kernel_rfl)) (fun _ _ _ h => h) (Or.inl ⟨by rfl, ?_⟩) ?_ ?_
               rotate_left
               ·intro w'
                go_simp
                with_reducible rfl
               rotate_left
               ·simp only [Act.put, List.setIfInBounds_toArray, List.set_cons_zero, List.set_cons_succ, i64_w, i32_w]
                rfl
               refine pure_ (i := 5) (N := some 33) (v := ?_) (a' := ?_) #[true, true, true, true, true, true, false, false, false, false, false, false, false, false, false, false, false] rfl rfl (any_of HT_.out (by kernel_rfl)) (fun _ _ _ h => h) (Or.inl ⟨by rfl, ?_⟩) ?_ ?_
               rotate_left
               ·intro w'
                go_simp
                with_reducible rfl
               rotate_left
               ·simp only [Act.put, List.setIfInBounds_toArray, List.set_cons_zero, List.set_cons_succ, i64_w, i32_w]
                rfl
               refine pure_ (i := 6) (N := some 34) (v := ?_) (a' := ?_) #[true, true, true, true, true, true, true, false, false, false, false, false, false, false, false, false, false] rfl rfl (any_of HT_.out (by kernel_rfl)) (fun _ _ _ h => h) (Or.inl ⟨by rfl, ?_⟩) ?_ ?_
               rotate_left
               ·intro w'
                go_simp
                with_reducible rfl
               rotate_left
               ·simp only [Act.put, List.setIfInBounds_toArray, List.set_cons_zero, List.set_cons_succ, i64_w, i32_w]
                rfl
               refine pure_ (i := 7) (N := some 35) (v := ?_) (a' := ?_) #[true, true, true, true, true, true, true, true, false, false, false, false, false, false, false, false, false] rfl rfl (any_of HT_.out (by kernel_rfl)) (fun _ _ _ h => h) (Or.inl ⟨by rfl, ?_⟩) ?_ ?_
               rotate_left
               ·intro w'
                go_simp
                with_reducible rfl
               rotate_left
               ·simp only [Act.put, List.setIfInBounds_toArray, List.set_cons_zero, List.set_cons_succ, i64_w, i32_w]
                rfl
               refine pure_ (i := 8) (N := some 36) (v := ?_) (a' := ?_) #[true, true, true, true, true, true, true, true, true, false, false, false, false, false, false, false, false] rfl rfl (any_of HT_.out (by kernel_rfl)) (fun _ _ _ h => h) (Or.inl ⟨by rfl, ?_⟩) ?_ ?_
               rotate_left
               ·intro w'
                go_simp
                with_reducible rfl
               rotate_left
               ·simp only [Act.put, List.setIfInBounds_toArray, List.set_cons_zero, List.set_cons_succ, i64_w, i32_w]
                rfl
               refine pure_ (i := 10) (N := some 38) (v := ?_) (a' := ?_) #[true, true, true, true, true, true, true, true, true, false, true, false, false, false, false, false, false] rfl rfl (any_of HT_.out (by kernel_rfl)) (fun _ _ _ h => h) (Or.inl ⟨by rfl, ?_⟩) ?_ ?_
               rotate_left
               ·intro w'
                go_simp
                with_reducible rfl
               rotate_left
               ·simp only [Act.put, List.setIfInBounds_toArray, List.set_cons_zero, List.set_cons_succ, i64_w, i32_w]
                rfl
               refine pure_ (i := 11) (N := some 39) (v := ?_) (a' := ?_) #[true, true, true, true, true, true, true, true, true, false, true, true, false, false, false, false, false] rfl rfl (any_of HT_.out (by kernel_rfl)) (fun _ _ _ h => h) (Or.inl ⟨by rfl, ?_⟩) ?_ ?_
               rotate_left
               ·intro w'
                go_simp
                with_reducible rfl
               rotate_left
               ·simp only [Act.put, List.setIfInBounds_toArray, List.set_cons_zero, List.set_cons_succ, i64_w, i32_w]
                rfl
               refine pure_ (i := 12) (N := some 40) (v := ?_) (a' := ?_) #[true, true, true, true, true, true, true, true, true, false, true, true, true, false, false, false, false] rfl rfl (any_of HT_.out (by kernel_rfl)) (fun _ _ _ h => h) (Or.inl ⟨by rfl, ?_⟩) ?_ ?_
               rotate_left
               ·intro w'
                go_simp
                with_reducible rfl
               rotate_left
               ·simp only [Act.put, List.setIfInBounds_toArray, List.set_cons_zero, List.set_cons_succ, i64_w, i32_w]
                rfl
               refine pure_ (i := 13) (N := some 41) (v := ?_) (a' := ?_) #[true, true, true, true, true, true, true, true, true, false, true, true, true, true, false, false, false] rfl rfl (any_of HT_.out (by kernel_rfl)) (fun _ _ _ h => h) (Or.inl ⟨by rfl, ?_⟩) ?_ ?_
               rotate_left
               ·intro w'
                go_simp
                with_reducible rfl
               rotate_left
               ·simp only [Act.put, List.setIfInBounds_toArray, List.set_cons_zero, List.set_cons_succ, i64_w, i32_w]
                rfl
               refine take_ (i := 9) (N := some 37) (v := ?_) (a' := ?_) #[true, true, true, true, true, true, true, true, true, true, true, true, true, true, false, false, false] rfl rfl (take_ofW HT_.out HW_.out (by kernel_rfl)) (fun _ _ _ h => h) (Or.inl ⟨by rfl, ?_⟩) hHeld ?_ ?_
               rotate_left
               ·rintro w' ⟨s0, s1, s2, s3, s4, s5⟩
                go_simp
                with_reducible rfl
               rotate_left
               ·simp only [Act.put, List.setIfInBounds_toArray, List.set_cons_zero, List.set_cons_succ, i64_w, i32_w]
                rfl
               refine take_ (i := 14) (N := some 42) (v := ?_) (a' := ?_) #[true, true, true, true, true, true, true, true, true, true, true, true, true, true, true, false, false] rfl rfl (take_ofW HT_.out HW_.out (by kernel_rfl)) (fun _ _ _ h => h) (Or.inl ⟨by rfl, ?_⟩) hHeld ?_ ?_
               rotate_left
               ·rintro w' ⟨s0, s1, s2, s3, s4, s5⟩
                go_simp
                with_reducible rfl
               rotate_left
               ·simp only [Act.put, List.setIfInBounds_toArray, List.set_cons_zero, List.set_cons_succ, i64_w, i32_w]
                rfl
               refine pure_ (i := 15) (N := some 43) (v := ?_) (a' := ?_) #[true, true, true, true, true, true, true, true, true, true, true, true, true, true, true, true, false] rfl rfl (any_of HT_.out (by kernel_rfl)) (fun _ _ _ h => h) (Or.inl ⟨by rfl, ?_⟩) ?_ ?_
               rotate_left
               ·intro w'
                go_simp
                with_reducible rfl
               rotate_left
               ·simp only [Act.put, List.setIfInBounds_toArray, List.set_cons_zero, List.set_cons_succ, i64_w, i32_w]
                rfl
               refine pure_ (i := 16) (N := some 44) (v := ?_) (a' := ?_) #[true, true, true, true, true, true, true, true, true, true, true, true, true, true, true, true, true] rfl rfl (any_of HT_.out (by kernel_rfl)) (fun _ _ _ h => h) (Or.inl ⟨by rfl, ?_⟩) ?_ ?_
               rotate_left
               ·intro w'
                go_simp
                with_reducible rfl
               rotate_left
               ·simp only [Act.put, List.setIfInBounds_toArray, List.set_cons_zero, List.set_cons_succ, i64_w, i32_w]
                rfl
               refine done_ (done_of HT_.out (by kernel_rfl)) ?_
               try go_wp2
               go_meet
               case rel => exact ⟨_, (decide (((rd_T46 t175 x7_2).f0) ≥ ((rd_T46 t175 (rd t178 x17_1)).f0))), vqP, H', ⟨by have := HK1.out; have := HK2.out; first | omega | exact Nat.le_refl _⟩, ⟨rwP HO_3.out⟩, ⟨rwP HO_4.out⟩, ⟨rwP HO_15.out⟩, ⟨hbP0 HB.out⟩⟩
              ·rw [if_neg c22] at H
               exact absurd H (by simp)
             ·rw [if_neg c21] at H
              exact absurd H (by simp)
            ·rw [if_neg c20] at H
             exact absurd H (by simp)
           ·rw [if_neg c19] at H
            exact absurd H (by simp)
          ·rw [if_neg c18] at H
           have c18b0 : decide (x7_2 < (l0.length : Int)) = false := decide_eq_false c18
           clear c18
           (first | rw [c18b0] | (simp only [i64_w, i32_w]; rw [c18b0]) | skip)
           have H' := Aside0.mk H
           clear H
           try go_wp2
           have n0_ := Aside0.mk (Kd.R_drew HO_3.out)
           have n1_ := Aside0.mk (Kd.R_drew HO_4.out)
           have n2_ := Aside0.mk (Kd.R_drew HO_15.out)
           have n3_ := Aside0.mk (below_drew1 HB.out)
           clear HO_3
           clear HO_4
           clear HO_15
           clear HB
           have HO_3 := n0_
           have HO_4 := n1_
           have HO_15 := n2_
           have HB := n3_
           clear n0_ n1_ n2_ n3_
           refine start_ (n := 17) (S := fun w' => True) (ds := []) #[false, false, false, false, false, false, false, false, false, false, false, false, false, false, false, false, false] (by kernel_rfl) rfl rfl trivial (fun hHeld => ?_); refine with_tabW colour_Mark.tab8 colour_Mark.bits8 (fun HT_ HW_ => ?_)
           generalize wr.drew = w25 at HO_3 HO_4 HO_15 HB hHeld ⊢
           refine pure_ (i := 0) (N := some 28) (v := ?_) (a' := ?_) #[true, false, false, false, false, false, false, false, false, false, false, false, false, false, false, false, false] rfl rfl (any_of HT_.out (by kernel_rfl)) (fun _ _ _ h => h) (Or.inl ⟨by rfl, ?_⟩) ?_ ?_
           rotate_left
           ·intro w'
            go_simp
            with_reducible rfl
           rotate_left
           ·simp only [Act.put, List.setIfInBounds_toArray, List.set_cons_zero, List.set_cons_succ, i64_w, i32_w]
            rfl
           refine pure_ (i := 1) (N := some 29) (v := ?_) (a' := ?_) #[true, true, false, false, false, false, false, false, false, false, false, false, false, false, false, false, false] rfl rfl (any_of HT_.out (by kernel_rfl)) (fun _ _ _ h => h) (Or.inl ⟨by rfl, ?_⟩) ?_ ?_
           rotate_left
           ·intro w'
            go_simp
            with_reducible rfl
           rotate_left
           ·simp only [Act.put, List.setIfInBounds_toArray, List.set_cons_zero, List.set_cons_succ, i64_w, i32_w]
            rfl
           refine pure_ (i := 2) (N := some 30) (v := ?_) (a' := ?_) #[true, true, true, false, false, false, false, false, false, false, false, false, false, false, false, false, false] rfl rfl (any_of HT_.out (by kernel_rfl)) (fun _ _ _ h => h) (Or.inl ⟨by rfl, ?_⟩) ?_ ?_
           rotate_left
           ·intro w'
            go_simp
            with_reducible rfl
           rotate_left
           ·simp only [Act.put, List.setIfInBounds_toArray, List.set_cons_zero, List.set_cons_succ, i64_w, i32_w]
            rfl
           refine pure_ (i := 3) (N := some 31) (v := ?_) (a' := ?_) #[true, true, true, true, false, false, false, false, false, false, false, false, false, false, false, false, false] rfl rfl (any_of HT_.out (by kernel_rfl)) (fun _ _ _ h => h) (Or.inl ⟨by rfl, ?_⟩) ?_ ?_
           rotate_left
           ·intro w'
            go_simp
            with_reducible rfl
           rotate_left
           ·simp only [Act.put, List.setIfInBounds_toArray, List.set_cons_zero, List.set_cons_succ, i64_w, i32_w]
            rfl
           refine pure_ (i := 4) (N := some 32) (v := ?_) (a' := ?_) #[true, true, true, true, true, false, false, false, false, false, false, false, false, false, false, false, false] rfl rfl (any_of HT_.out (by kernel_rfl)) (fun _ _ _ h => h) (Or.inl ⟨by rfl, ?_⟩) ?_ ?_
           rotate_left
           ·intro w'
            go_simp
            with_reducible rfl
           rotate_left
           ·simp only [Act.put, List.setIfInBounds_toArray, List.set_cons_zero, List.set_cons_succ, i64_w, i32_w]
            rfl
           refine pure_ (i := 5) (N := some 33) (v := undef) (a' := ?_) #[true, true, true, true, true, true, false, false, false, false, false, false, false, false, false, false, false] rfl rfl (any_of HT_.out (by kernel_rfl)) (fun _ _ _ h => h) (Or.inr ⟨by rfl, rfl⟩) ?_ ?_
           rotate_left
           ·simp only [Act.put, List.setIfInBounds_toArray, List.set_cons_zero, List.set_cons_succ, i64_w, i32_w]
            rfl
           refine pure_ (i := 6) (N := some 34) (v := undef) (a' := ?_) #[true, true, true, true, true, true, true, false, false, false, false, false, false, false, false, false, false] rfl rfl (any_of HT_.out (by kernel_rfl)) (fun _ _ _ h => h) (Or.inr ⟨by rfl, rfl⟩) ?_ ?_
           rotate_left
           ·simp only [Act.put, List.setIfInBounds_toArray, List.set_cons_zero, List.set_cons_succ, i64_w, i32_w]
            rfl
           refine pure_ (i := 7) (N := some 35) (v := undef) (a' := ?_) #[true, true, true, true, true, true, true, true, false, false, false, false, false, false, false, false, false] rfl rfl (any_of HT_.out (by kernel_rfl)) (fun _ _ _ h => h) (Or.inr ⟨by rfl, rfl⟩) ?_ ?_
           rotate_left
           ·simp only [Act.put, List.setIfInBounds_toArray, List.set_cons_zero, List.set_cons_succ, i64_w, i32_w]
            rfl
           refine pure_ (i := 8) (N := some 36) (v := undef) (a' := ?_) #[true, true, true, true, true, true, true, true, true, false, false, false, false, false, false, false, false] rfl rfl (any_of HT_.out (by kernel_rfl)) (fun _ _ _ h => h) (Or.inr ⟨by rfl, rfl⟩) ?_ ?_
           rotate_left
           ·simp only [Act.put, List.setIfInBounds_toArray, List.set_cons_zero, List.set_cons_succ, i64_w, i32_w]
            rfl
           refine pure_ (i := 9) (N := some 37) (v := undef) (a' := ?_) #[true, true, true, true, true, true, true, true, true, true, false, false, false, false, false, false, false] rfl rfl (any_of HT_.out (by kernel_rfl)) (fun _ _ _ h => h) (Or.inr ⟨by rfl, rfl⟩) ?_ ?_
           rotate_left
           ·simp only [Act.put, List.setIfInBounds_toArray, List.set_cons_zero, List.set_cons_succ, i64_w, i32_w]
            rfl
           refine pure_ (i := 10) (N := some 38) (v := undef) (a' := ?_) #[true, true, true, true, true, true, true, true, true, true, true, false, false, false, false, false, false] rfl rfl (any_of HT_.out (by kernel_rfl)) (fun _ _ _ h => h) (Or.inr ⟨by rfl, rfl⟩) ?_ ?_
           rotate_left
           ·simp only [Act.put, List.setIfInBounds_toArray, List.set_cons_zero, List.set_cons_succ, i64_w, i32_w]
            rfl
           refine pure_ (i := 11) (N := some 39) (v := undef) (a' := ?_) #[true, true, true, true, true, true, true, true, true, true, true, true, false, false, false, false, false] rfl rfl (any_of HT_.out (by kernel_rfl)) (fun _ _ _ h => h) (Or.inr ⟨by rfl, rfl⟩) ?_ ?_
           rotate_left
           ·simp only [Act.put, List.setIfInBounds_toArray, List.set_cons_zero, List.set_cons_succ, i64_w, i32_w]
            rfl
           refine pure_ (i := 12) (N := some 40) (v := undef) (a' := ?_) #[true, true, true, true, true, true, true, true, true, true, true, true, true, false, false, false, false] rfl rfl (any_of HT_.out (by kernel_rfl)) (fun _ _ _ h => h) (Or.inr ⟨by rfl, rfl⟩) ?_ ?_
           rotate_left
           ·simp only [Act.put, List.setIfInBounds_toArray, List.set_cons_zero, List.set_cons_succ, i64_w, i32_w]
            rfl
           refine pure_ (i := 13) (N := some 41) (v := undef) (a' := ?_) #[true, true, true, true, true, true, true, true, true, true, true, true, true, true, false, false, false] rfl rfl (any_of HT_.out (by kernel_rfl)) (fun _ _ _ h => h) (Or.inr ⟨by rfl, rfl⟩) ?_ ?_
           rotate_left
           ·simp only [Act.put, List.setIfInBounds_toArray, List.set_cons_zero, List.set_cons_succ, i64_w, i32_w]
            rfl
           refine pure_ (i := 14) (N := some 42) (v := undef) (a' := ?_) #[true, true, true, true, true, true, true, true, true, true, true, true, true, true, true, false, false] rfl rfl (any_of HT_.out (by kernel_rfl)) (fun _ _ _ h => h) (Or.inr ⟨by rfl, rfl⟩) ?_ ?_
           rotate_left
           ·simp only [Act.put, List.setIfInBounds_toArray, List.set_cons_zero, List.set_cons_succ, i64_w, i32_w]
            rfl
           refine pure_ (i := 15) (N := some 43) (v := undef) (a' := ?_) #[true, true, true, true, true, true, true, true, true, true, true, true, true, true, true, true, false] rfl rfl (any_of HT_.out (by kernel_rfl)) (fun _ _ _ h => h) (Or.inr ⟨by rfl, rfl⟩) ?_ ?_
           rotate_left
           ·simp only [Act.put, List.setIfInBounds_toArray, List.set_cons_zero, List.set_cons_succ, i64_w, i32_w]
            rfl
           refine pure_ (i := 16) (N := some 44) (v := ?_) (a' := ?_) #[true, true, true, true, true, true, true, true, true, true, true, true, true, true, true, true, true] rfl rfl (any_of HT_.out (by kernel_rfl)) (fun _ _ _ h => h) (Or.inl ⟨by rfl, ?_⟩) ?_ ?_
           rotate_left
           ·intro w'
            go_simp
            with_reducible rfl
           rotate_left
           ·simp only [Act.put, List.setIfInBounds_toArray, List.set_cons_zero, List.set_cons_succ, i64_w, i32_w]
            rfl
           refine done_ (done_of HT_.out (by kernel_rfl)) ?_
           try go_wp2
           go_meet
           case rel => exact ⟨_, (false), vqP, H', ⟨by have := HK1.out; have := HK2.out; first | omega | exact Nat.le_refl _⟩, ⟨rwP HO_3.out⟩, ⟨rwP HO_4.out⟩, ⟨rwP HO_15.out⟩, ⟨hbP0 HB.out⟩⟩
         case rest =>
          clear HC17
          obtain ⟨kq, x44_16, rfl, HA, HJ16, HO_3, HO_4, HO_15, HB⟩ := hcut
          cases kq with
          | zero => exact absurd HA.out (by simp [colour_Mark.j2])
          | succ kj16 =>
           have H := HA.out
           clear HA
           simp only [colour_Mark.j2] at H
           by_cases c26 : x44_16 = true
           ·subst c26
            have H1 : (if 0 ≤ x7_2 then (if x7_2 < (t175.length : Int) then (if 0 ≤ (rd t178 x17_1) then (if (rd t178 x17_1) < (t175.length : Int) then (if ((rd_T46 t175 x7_2).f0) > ((rd_T46 t175 (rd t178 x17_1)).f0) then (colour_Mark.l1 kj16 l0 x3_2 t175 (rd t178 x17_1) (wrap64 (x7_2 + 1)) t178 (t178.length : Int) x17_1) else (if x7_2 < (l0.length : Int) then (if ((rd_T35 l0 x7_2).f0) = 17 then (colour_Mark.l0 kj16 l0 x3_2 t175 t178 (t178.length : Int) (wrap64 (x17_1 + 1))) else ((colour_Read.f ((rd_T35 l0 x7_2).f0) ((rd_T35 l0 x7_2).f1) ((rd_T35 l0 x7_2).f2) ((rd_T35 l0 x7_2).f3.f0) ((rd_T35 l0 x7_2).f3.f1) ((rd_T35 l0 x7_2).f3.f2) ((rd_T35 l0 x7_2).f4) ((rd_T35 l0 x7_2).f5) ((rd_T35 l0 x7_2).f6.f0) ((rd_T35 l0 x7_2).f6.f1) ((rd_T35 l0 x7_2).f6.f2) ((rd_T35 l0 x7_2).f6.f3) ((rd_T35 l0 x7_2).f7)).bind fun bt190 => (if bt190.2.2.2.2 = true then (if x7_2 < (x3_2.length : Int) then (colour_Mark.l1 kj16 l0 (x3_2.set (x7_2 : Int).toNat (⟨26, (⟨#[]⟩ : ByteArray), (⟨#[]⟩ : ByteArray), (⟨false, (⟨#[]⟩ : ByteArray), (⟨#[]⟩ : ByteArray)⟩ : S32), false, false, (⟨bt190.1, bt190.2.1, bt190.2.2.1, bt190.2.2.2.1⟩ : S33), (rd_T35 l0 x7_2).f7⟩ : S35)) t175 (rd t178 x17_1) (wrap64 (x7_2 + 1)) t178 (t178.length : Int) x17_1) else (none)) else (colour_Mark.l1 kj16 l0 x3_2 t175 (rd t178 x17_1) (wrap64 (x7_2 + 1)) t178 (t178.length : Int) x17_1)))) else (none))) else (none)) else (none)) else (none)) else (none)) = some r := by rw [if_pos rfl] at H; exact H
            clear H
            have H := H1
            clear H1
            by_cases c27 : 0 ≤ x7_2
            ·rw [if_pos c27] at H
             have c27b0 : decide (0 ≤ x7_2) = true := decide_eq_true c27
             clear c27
             by_cases c28 : x7_2 < (t175.length : Int)
             ·rw [if_pos c28] at H
              have c28b0 : decide (x7_2 < (t175.length : Int)) = true := decide_eq_true c28
              clear c28
              by_cases c29 : 0 ≤ (rd t178 x17_1)
              ·rw [if_pos c29] at H
               have c29b0 : decide (0 ≤ (rd t178 x17_1)) = true := decide_eq_true c29
               clear c29
               by_cases c30 : (rd t178 x17_1) < (t175.length : Int)
               ·rw [if_pos c30] at H
                have c30b0 : decide ((rd t178 x17_1) < (t175.length : Int)) = true := decide_eq_true c30
                clear c30
                by_cases c31 : ((rd_T46 t175 x7_2).f0) > ((rd_T46 t175 (rd t178 x17_1)).f0)
                ·rw [if_pos c31] at H
                 have c31b0 : decide (((rd_T46 t175 (rd t178 x17_1)).f0) < ((rd_T46 t175 x7_2).f0)) = true := decide_eq_true c31
                 clear c31
                 have H' := Aside0.mk H
                 clear H
                 try go_wp2
                 have n0_ := Aside0.mk (Kd.R_drew HO_3.out)
                 have n1_ := Aside0.mk (Kd.R_drew HO_4.out)
                 have n2_ := Aside0.mk (Kd.R_drew HO_15.out)
                 have n3_ := Aside0.mk (below_drew1 HB.out)
                 clear HO_3
                 clear HO_4
                 clear HO_15
                 clear HB
                 have HO_3 := n0_
                 have HO_4 := n1_
                 have HO_15 := n2_
                 have HB := n3_
                 clear n0_ n1_ n2_ n3_
                 obtain ⟨Ao33, co33, eo33⟩ := Kd.R_slice HO_4.out
                 (first | subst eo33 | (injection eo33 with f1_ f2_ f3_; have f4_ := f1_.symm; have f5_ := f3_.symm; clear f1_ f2_ f3_; subst f4_; subst f5_))
                 have p186 : 0 ≤ (x7_2 : Int) := of_decide_eq_true (by first | (with_reducible assumption) | assumption)
                 have q186 : x7_2 < (t175.length : Int) := of_decide_eq_true (by first | (with_reducible assumption) | assumption)
                 obtain ⟨ad186, e186, hx186_0, hx186_1, hx186_2⟩ := at_T46 (Kd.R_reads' HO_4.out).2.2 x7_2 p186 q186
                 cases e186
                 replace p186 := eq_true p186
                 replace q186 := eq_true q186
                 have p187 : 0 ≤ ((rd t178 x17_1) : Int) := of_decide_eq_true (by first | (with_reducible assumption) | assumption)
                 have q187 : (rd t178 x17_1) < (t175.length : Int) := of_decide_eq_true (by first | (with_reducible assumption) | assumption)
                 obtain ⟨ad187, e187, hx187_0, hx187_1, hx187_2⟩ := at_T46 (Kd.R_reads' HO_4.out).2.2 (rd t178 x17_1) p187 q187
                 obtain rfl : ad186 = ad187 := (by injection e187)
                 replace p187 := eq_true p187
                 replace q187 := eq_true q187
                 refine start_ (n := 11) (S := fun w' => w'.cell? (ad186.add ((x7_2).toNat * 3)) = some (.int .i64 ((rd_T46 t175 x7_2).f0)) ∧ w'.cell? ⟨(ad186.add ((x7_2).toNat * 3)).block, (ad186.add ((x7_2).toNat * 3)).off + 1, none⟩ = some (.bool ((rd_T46 t175 x7_2).f1)) ∧ w'.cell? ⟨(ad186.add ((x7_2).toNat * 3)).block, (ad186.add ((x7_2).toNat * 3)).off + 2, none⟩ = some (.bool ((rd_T46 t175 x7_2).f2)) ∧ w'.cell? (ad186.add (((rd t178 x17_1)).toNat * 3)) = some (.int .i64 ((rd_T46 t175 (rd t178 x17_1)).f0)) ∧ w'.cell? ⟨(ad186.add (((rd t178 x17_1)).toNat * 3)).block, (ad186.add (((rd t178 x17_1)).toNat * 3)).off + 1, none⟩ = some (.bool ((rd_T46 t175 (rd t178 x17_1)).f1)) ∧ w'.cell? ⟨(ad186.add (((rd t178 x17_1)).toNat * 3)).block, (ad186.add (((rd t178 x17_1)).toNat * 3)).off + 2, none⟩ = some (.bool ((rd_T46 t175 (rd t178 x17_1)).f2))) (ds := []) #[false, false, false, false, false, false, false, false, false, false, false] (by kernel_rfl) rfl rfl ⟨hx186_0, hx186_1, hx186_2, hx187_0, hx187_1, hx187_2⟩ (fun hHeld => ?_); refine with_tabW colour_Mark.tab10 colour_Mark.bits10 (fun HT_ HW_ => ?_)
                 generalize wc.drew = w32 at HO_3 HO_4 HO_15 HB hx186_0 hx186_1 hx186_2 hx187_0 hx187_1 hx187_2 hHeld ⊢
                 refine pure_ (i := 0) (N := some 47) (v := ?_) (a' := ?_) #[true, false, false, false, false, false, false, false, false, false, false] rfl rfl (any_of HT_.out (by kernel_rfl)) (fun _ _ _ h => h) (Or.inl ⟨by rfl, ?_⟩) ?_ ?_
                 rotate_left
                 ·intro w'
                  go_simp
                  with_reducible rfl
                 rotate_left
                 ·simp only [Act.put, List.setIfInBounds_toArray, List.set_cons_zero, List.set_cons_succ, i64_w, i32_w]
                  rfl
                 refine pure_ (i := 1) (N := some 48) (v := ?_) (a' := ?_) #[true, true, false, false, false, false, false, false, false, false, false] rfl rfl (any_of HT_.out (by kernel_rfl)) (fun _ _ _ h => h) (Or.inl ⟨by rfl, ?_⟩) ?_ ?_
                 rotate_left
                 ·intro w'
                  go_simp
                  with_reducible rfl
                 rotate_left
                 ·simp only [Act.put, List.setIfInBounds_toArray, List.set_cons_zero, List.set_cons_succ, i64_w, i32_w]
                  rfl
                 refine pure_ (i := 2) (N := some 49) (v := ?_) (a' := ?_) #[true, true, true, false, false, false, false, false, false, false, false] rfl rfl (any_of HT_.out (by kernel_rfl)) (fun _ _ _ h => h) (Or.inl ⟨by rfl, ?_⟩) ?_ ?_
                 rotate_left
                 ·intro w'
                  go_simp
                  with_reducible rfl
                 rotate_left
                 ·simp only [Act.put, List.setIfInBounds_toArray, List.set_cons_zero, List.set_cons_succ, i64_w, i32_w]
                  rfl
                 refine pure_ (i := 3) (N := some 50) (v := ?_) (a' := ?_) #[true, true, true, true, false, false, false, false, false, false, false] rfl rfl (any_of HT_.out (by kernel_rfl)) (fun _ _ _ h => h) (Or.inl ⟨by rfl, ?_⟩) ?_ ?_
                 rotate_left
                 ·intro w'
                  go_simp
                  with_reducible rfl
                 rotate_left
                 ·simp only [Act.put, List.setIfInBounds_toArray, List.set_cons_zero, List.set_cons_succ, i64_w, i32_w]
                  rfl
                 refine pure_ (i := 5) (N := some 52) (v := ?_) (a' := ?_) #[true, true, true, true, false, true, false, false, false, false, false] rfl rfl (any_of HT_.out (by kernel_rfl)) (fun _ _ _ h => h) (Or.inl ⟨by rfl, ?_⟩) ?_ ?_
                 rotate_left
                 ·intro w'
                  go_simp
                  with_reducible rfl
                 rotate_left
                 ·simp only [Act.put, List.setIfInBounds_toArray, List.set_cons_zero, List.set_cons_succ, i64_w, i32_w]
                  rfl
                 refine pure_ (i := 6) (N := some 53) (v := ?_) (a' := ?_) #[true, true, true, true, false, true, true, false, false, false, false] rfl rfl (any_of HT_.out (by kernel_rfl)) (fun _ _ _ h => h) (Or.inl ⟨by rfl, ?_⟩) ?_ ?_
                 rotate_left
                 ·intro w'
                  go_simp
                  with_reducible rfl
                 rotate_left
                 ·simp only [Act.put, List.setIfInBounds_toArray, List.set_cons_zero, List.set_cons_succ, i64_w, i32_w]
                  rfl
                 refine pure_ (i := 7) (N := some 54) (v := ?_) (a' := ?_) #[true, true, true, true, false, true, true, true, false, false, false] rfl rfl (any_of HT_.out (by kernel_rfl)) (fun _ _ _ h => h) (Or.inl ⟨by rfl, ?_⟩) ?_ ?_
                 rotate_left
                 ·intro w'
                  go_simp
                  with_reducible rfl
                 rotate_left
                 ·simp only [Act.put, List.setIfInBounds_toArray, List.set_cons_zero, List.set_cons_succ, i64_w, i32_w]
                  rfl
                 refine pure_ (i := 8) (N := some 55) (v := ?_) (a' := ?_) #[true, true, true, true, false, true, true, true, true, false, false] rfl rfl (any_of HT_.out (by kernel_rfl)) (fun _ _ _ h => h) (Or.inl ⟨by rfl, ?_⟩) ?_ ?_
                 rotate_left
                 ·intro w'
                  go_simp
                  with_reducible rfl
                 rotate_left
                 ·simp only [Act.put, List.setIfInBounds_toArray, List.set_cons_zero, List.set_cons_succ, i64_w, i32_w]
                  rfl
                 refine take_ (i := 4) (N := some 51) (v := ?_) (a' := ?_) #[true, true, true, true, true, true, true, true, true, false, false] rfl rfl (take_ofW HT_.out HW_.out (by kernel_rfl)) (fun _ _ _ h => h) (Or.inl ⟨by rfl, ?_⟩) hHeld ?_ ?_
                 rotate_left
                 ·rintro w' ⟨s0, s1, s2, s3, s4, s5⟩
                  go_simp
                  with_reducible rfl
                 rotate_left
                 ·simp only [Act.put, List.setIfInBounds_toArray, List.set_cons_zero, List.set_cons_succ, i64_w, i32_w]
                  rfl
                 refine take_ (i := 9) (N := some 56) (v := ?_) (a' := ?_) #[true, true, true, true, true, true, true, true, true, true, false] rfl rfl (take_ofW HT_.out HW_.out (by kernel_rfl)) (fun _ _ _ h => h) (Or.inl ⟨by rfl, ?_⟩) hHeld ?_ ?_
                 rotate_left
                 ·rintro w' ⟨s0, s1, s2, s3, s4, s5⟩
                  go_simp
                  with_reducible rfl
                 rotate_left
                 ·simp only [Act.put, List.setIfInBounds_toArray, List.set_cons_zero, List.set_cons_succ, i64_w, i32_w]
                  rfl
                 refine pure_ (i := 10) (N := some 57) (v := ?_) (a' := ?_) #[true, true, true, true, true, true, true, true, true, true, true] rfl rfl (any_of HT_.out (by kernel_rfl)) (fun _ _ _ h => h) (Or.inl ⟨by rfl, ?_⟩) ?_ ?_
                 rotate_left
                 ·intro w'
                  go_simp
                  with_reducible rfl
                 rotate_left
                 ·simp only [Act.put, List.setIfInBounds_toArray, List.set_cons_zero, List.set_cons_succ, i64_w, i32_w]
                  rfl
                 refine done_ (done_of HT_.out (by kernel_rfl)) ?_
                 try go_wp2
                 go_roundg kj16
                 case measure => have := HK1.out; have := HK2.out; have := HJ16.out; omega
                 case rel => exact ⟨(x3_2), (wrap64 (x7_2 + 1)), vqP, H', ⟨by have := HK1.out; have := HK2.out; have := HJ16.out; omega⟩, ⟨rwP HO_3.out⟩, ⟨rwP HO_4.out⟩, ⟨rwP HO_15.out⟩, ⟨hbP0 HB.out⟩⟩
                ·rw [if_neg c31] at H
                 have c31b0 : decide (((rd_T46 t175 (rd t178 x17_1)).f0) < ((rd_T46 t175 x7_2).f0)) = false := decide_eq_false c31
                 clear c31
                 by_cases c34 : x7_2 < (l0.length : Int)
                 ·rw [if_pos c34] at H
                  have c34b0 : decide (x7_2 < (l0.length : Int)) = true := decide_eq_true c34
                  clear c34
                  by_cases c35 : ((rd_T35 l0 x7_2).f0) = 17
                  ·rw [if_pos c35] at H
                   have c35b0 : (((rd_T35 l0 x7_2).f0) == 17) = true := beq_iff_eq.mpr c35
                   have c35b1 : (((rd_T35 l0 x7_2).f0) != 17) = false := bne_eq_false_iff_eq.mpr c35
                   clear c35
                   have H' := Aside0.mk H
                   clear H
                   try go_wp2
                   have n0_ := Aside0.mk (Kd.R_drew HO_3.out)
                   have n1_ := Aside0.mk (Kd.R_drew HO_4.out)
                   have n2_ := Aside0.mk (Kd.R_drew HO_15.out)
                   have n3_ := Aside0.mk (below_drew1 HB.out)
                   clear HO_3
                   clear HO_4
                   clear HO_15
                   clear HB
                   have HO_3 := n0_
                   have HO_4 := n1_
                   have HO_15 := n2_
                   have HB := n3_
                   clear n0_ n1_ n2_ n3_
                   obtain ⟨Ao37, co37, eo37⟩ := Kd.R_slice HO_4.out
                   (first | subst eo37 | (injection eo37 with f1_ f2_ f3_; have f4_ := f1_.symm; have f5_ := f3_.symm; clear f1_ f2_ f3_; subst f4_; subst f5_))
                   have p186 : 0 ≤ (x7_2 : Int) := of_decide_eq_true (by first | (with_reducible assumption) | assumption)
                   have q186 : x7_2 < (t175.length : Int) := of_decide_eq_true (by first | (with_reducible assumption) | assumption)
                   obtain ⟨ad186, e186, hx186_0, hx186_1, hx186_2⟩ := at_T46 (Kd.R_reads' HO_4.out).2.2 x7_2 p186 q186
                   cases e186
                   replace p186 := eq_true p186
                   replace q186 := eq_true q186
                   have p187 : 0 ≤ ((rd t178 x17_1) : Int) := of_decide_eq_true (by first | (with_reducible assumption) | assumption)
                   have q187 : (rd t178 x17_1) < (t175.length : Int) := of_decide_eq_true (by first | (with_reducible assumption) | assumption)
                   obtain ⟨ad187, e187, hx187_0, hx187_1, hx187_2⟩ := at_T46 (Kd.R_reads' HO_4.out).2.2 (rd t178 x17_1) p187 q187
                   obtain rfl : ad186 = ad187 := (by injection e187)
                   replace p187 := eq_true p187
                   replace q187 := eq_true q187
                   refine start_ (n := 11) (S := fun w' => w'.cell? (ad186.add ((x7_2).toNat * 3)) = some (.int .i64 ((rd_T46 t175 x7_2).f0)) ∧ w'.cell? ⟨(ad186.add ((x7_2).toNat * 3)).block, (ad186.add ((x7_2).toNat * 3)).off + 1, none⟩ = some (.bool ((rd_T46 t175 x7_2).f1)) ∧ w'.cell? ⟨(ad186.add ((x7_2).toNat * 3)).block, (ad186.add ((x7_2).toNat * 3)).off + 2, none⟩ = some (.bool ((rd_T46 t175 x7_2).f2)) ∧ w'.cell? (ad186.add (((rd t178 x17_1)).toNat * 3)) = some (.int .i64 ((rd_T46 t175 (rd t178 x17_1)).f0)) ∧ w'.cell? ⟨(ad186.add (((rd t178 x17_1)).toNat * 3)).block, (ad186.add (((rd t178 x17_1)).toNat * 3)).off + 1, none⟩ = some (.bool ((rd_T46 t175 (rd t178 x17_1)).f1)) ∧ w'.cell? ⟨(ad186.add (((rd t178 x17_1)).toNat * 3)).block, (ad186.add (((rd t178 x17_1)).toNat * 3)).off + 2, none⟩ = some (.bool ((rd_T46 t175 (rd t178 x17_1)).f2))) (ds := []) #[false, false, false, false, false, false, false, false, false, false, false] (by kernel_rfl) rfl rfl ⟨hx186_0, hx186_1, hx186_2, hx187_0, hx187_1, hx187_2⟩ (fun hHeld => ?_); refine with_tabW colour_Mark.tab10 colour_Mark.bits10 (fun HT_ HW_ => ?_)
                   generalize wc.drew = w36 at HO_3 HO_4 HO_15 HB hx186_0 hx186_1 hx186_2 hx187_0 hx187_1 hx187_2 hHeld ⊢
                   refine pure_ (i := 0) (N := some 47) (v := ?_) (a' := ?_) #[true, false, false, false, false, false, false, false, false, false, false] rfl rfl (any_of HT_.out (by kernel_rfl)) (fun _ _ _ h => h) (Or.inl ⟨by rfl, ?_⟩) ?_ ?_
                   rotate_left
                   ·intro w'
                    go_simp
                    with_reducible rfl
                   rotate_left
                   ·simp only [Act.put, List.setIfInBounds_toArray, List.set_cons_zero, List.set_cons_succ, i64_w, i32_w]
                    rfl
                   refine pure_ (i := 1) (N := some 48) (v := ?_) (a' := ?_) #[true, true, false, false, false, false, false, false, false, false, false] rfl rfl (any_of HT_.out (by kernel_rfl)) (fun _ _ _ h => h) (Or.inl ⟨by rfl, ?_⟩) ?_ ?_
                   rotate_left
                   ·intro w'
                    go_simp
                    with_reducible rfl
                   rotate_left
                   ·simp only [Act.put, List.setIfInBounds_toArray, List.set_cons_zero, List.set_cons_succ, i64_w, i32_w]
                    rfl
                   refine pure_ (i := 2) (N := some 49) (v := ?_) (a' := ?_) #[true, true, true, false, false, false, false, false, false, false, false] rfl rfl (any_of HT_.out (by kernel_rfl)) (fun _ _ _ h => h) (Or.inl ⟨by rfl, ?_⟩) ?_ ?_
                   rotate_left
                   ·intro w'
                    go_simp
                    with_reducible rfl
                   rotate_left
                   ·simp only [Act.put, List.setIfInBounds_toArray, List.set_cons_zero, List.set_cons_succ, i64_w, i32_w]
                    rfl
                   refine pure_ (i := 3) (N := some 50) (v := ?_) (a' := ?_) #[true, true, true, true, false, false, false, false, false, false, false] rfl rfl (any_of HT_.out (by kernel_rfl)) (fun _ _ _ h => h) (Or.inl ⟨by rfl, ?_⟩) ?_ ?_
                   rotate_left
                   ·intro w'
                    go_simp
                    with_reducible rfl
                   rotate_left
                   ·simp only [Act.put, List.setIfInBounds_toArray, List.set_cons_zero, List.set_cons_succ, i64_w, i32_w]
                    rfl
                   refine pure_ (i := 5) (N := some 52) (v := ?_) (a' := ?_) #[true, true, true, true, false, true, false, false, false, false, false] rfl rfl (any_of HT_.out (by kernel_rfl)) (fun _ _ _ h => h) (Or.inl ⟨by rfl, ?_⟩) ?_ ?_
                   rotate_left
                   ·intro w'
                    go_simp
                    with_reducible rfl
                   rotate_left
                   ·simp only [Act.put, List.setIfInBounds_toArray, List.set_cons_zero, List.set_cons_succ, i64_w, i32_w]
                    rfl
                   refine pure_ (i := 6) (N := some 53) (v := ?_) (a' := ?_) #[true, true, true, true, false, true, true, false, false, false, false] rfl rfl (any_of HT_.out (by kernel_rfl)) (fun _ _ _ h => h) (Or.inl ⟨by rfl, ?_⟩) ?_ ?_
                   rotate_left
                   ·intro w'
                    go_simp
                    with_reducible rfl
                   rotate_left
                   ·simp only [Act.put, List.setIfInBounds_toArray, List.set_cons_zero, List.set_cons_succ, i64_w, i32_w]
                    rfl
                   refine pure_ (i := 7) (N := some 54) (v := ?_) (a' := ?_) #[true, true, true, true, false, true, true, true, false, false, false] rfl rfl (any_of HT_.out (by kernel_rfl)) (fun _ _ _ h => h) (Or.inl ⟨by rfl, ?_⟩) ?_ ?_
                   rotate_left
                   ·intro w'
                    go_simp
                    with_reducible rfl
                   rotate_left
                   ·simp only [Act.put, List.setIfInBounds_toArray, List.set_cons_zero, List.set_cons_succ, i64_w, i32_w]
                    rfl
                   refine pure_ (i := 8) (N := some 55) (v := ?_) (a' := ?_) #[true, true, true, true, false, true, true, true, true, false, false] rfl rfl (any_of HT_.out (by kernel_rfl)) (fun _ _ _ h => h) (Or.inl ⟨by rfl, ?_⟩) ?_ ?_
                   rotate_left
                   ·intro w'
                    go_simp
                    with_reducible rfl
                   rotate_left
                   ·simp only [Act.put, List.setIfInBounds_toArray, List.set_cons_zero, List.set_cons_succ, i64_w, i32_w]
                    rfl
                   refine take_ (i := 4) (N := some 51) (v := ?_) (a' := ?_) #[true, true, true, true, true, true, true, true, true, false, false] rfl rfl (take_ofW HT_.out HW_.out (by kernel_rfl)) (fun _ _ _ h => h) (Or.inl ⟨by rfl, ?_⟩) hHeld ?_ ?_
                   rotate_left
                   ·rintro w' ⟨s0, s1, s2, s3, s4, s5⟩
                    go_simp
                    with_reducible rfl
                   rotate_left
                   ·simp only [Act.put, List.setIfInBounds_toArray, List.set_cons_zero, List.set_cons_succ, i64_w, i32_w]
                    rfl
                   refine take_ (i := 9) (N := some 56) (v := ?_) (a' := ?_) #[true, true, true, true, true, true, true, true, true, true, false] rfl rfl (take_ofW HT_.out HW_.out (by kernel_rfl)) (fun _ _ _ h => h) (Or.inl ⟨by rfl, ?_⟩) hHeld ?_ ?_
                   rotate_left
                   ·rintro w' ⟨s0, s1, s2, s3, s4, s5⟩
                    go_simp
                    with_reducible rfl
                   rotate_left
                   ·simp only [Act.put, List.setIfInBounds_toArray, List.set_cons_zero, List.set_cons_succ, i64_w, i32_w]
                    rfl
                   refine pure_ (i := 10) (N := some 57) (v := ?_) (a' := ?_) #[true, true, true, true, true, true, true, true, true, true, true] rfl rfl (any_of HT_.out (by kernel_rfl)) (fun _ _ _ h => h) (Or.inl ⟨by rfl, ?_⟩) ?_ ?_
                   rotate_left
                   ·intro w'
                    go_simp
                    with_reducible rfl
                   rotate_left
                   ·simp only [Act.put, List.setIfInBounds_toArray, List.set_cons_zero, List.set_cons_succ, i64_w, i32_w]
                    rfl
                   refine done_ (done_of HT_.out (by kernel_rfl)) ?_
                   have p188 : 0 ≤ (x7_2 : Int) := of_decide_eq_true (by first | (with_reducible assumption) | assumption)
                   have q188 : x7_2 < (l0.length : Int) := of_decide_eq_true (by first | (with_reducible assumption) | assumption)
                   obtain ⟨ad188, e188, hx188_0, hx188_1, hx188_2, hx188_3, hx188_4, hx188_5, hx188_6, hx188_7, hx188_8, hx188_9, hx188_10, hx188_11, hx188_12⟩ := at_T35 HR0.out x7_2 p188 q188
                   cases e188
                   replace hx188_0 := clB HB.out hx188_0
                   replace hx188_1 := clB HB.out hx188_1
                   replace hx188_2 := clB HB.out hx188_2
                   replace hx188_3 := clB HB.out hx188_3
                   replace hx188_4 := clB HB.out hx188_4
                   replace hx188_5 := clB HB.out hx188_5
                   replace hx188_6 := clB HB.out hx188_6
                   replace hx188_7 := clB HB.out hx188_7
                   replace hx188_8 := clB HB.out hx188_8
                   replace hx188_9 := clB HB.out hx188_9
                   replace hx188_10 := clB HB.out hx188_10
                   replace hx188_11 := clB HB.out hx188_11
                   replace hx188_12 := clB HB.out hx188_12
                   replace p188 := eq_true p188
                   replace q188 := eq_true q188
                   try go_wp2
                   go_roundg kj16
                   case measure => have := HK1.out; have := HK2.out; have := HJ16.out; omega
                   case rel => exact ⟨(x3_2), (wrap64 (x17_1 + 1)), vqP, H', ⟨by have := HK1.out; have := HK2.out; have := HJ16.out; omega⟩, ⟨rwP HO_3.out⟩, ⟨rwP HO_4.out⟩, ⟨rwP HO_15.out⟩, ⟨hbP0 HB.out⟩⟩
                  ·rw [if_neg c35] at H
                   have c35b0 : (((rd_T35 l0 x7_2).f0) == 17) = false := beq_eq_false_iff_ne.mpr c35
                   have c35b1 : (((rd_T35 l0 x7_2).f0) != 17) = true := bne_iff_ne.mpr c35
                   replace H := Option.bind_eq_some_iff.mp H
                   obtain ⟨⟨t190, t191, t192, t193, t194⟩, A380, H⟩ := H
                   replace H : (if t194 = true then (if x7_2 < (x3_2.length : Int) then (colour_Mark.l1 kj16 l0 (x3_2.set (x7_2 : Int).toNat (⟨26, (⟨#[]⟩ : ByteArray), (⟨#[]⟩ : ByteArray), (⟨false, (⟨#[]⟩ : ByteArray), (⟨#[]⟩ : ByteArray)⟩ : S32), false, false, (⟨t190, t191, t192, t193⟩ : S33), (rd_T35 l0 x7_2).f7⟩ : S35)) t175 (rd t178 x17_1) (wrap64 (x7_2 + 1)) t178 (t178.length : Int) x17_1) else (none)) else (colour_Mark.l1 kj16 l0 x3_2 t175 (rd t178 x17_1) (wrap64 (x7_2 + 1)) t178 (t178.length : Int) x17_1)) = some r := H
                   have A38 := Aside0.mk A380
                   clear A380
                   by_cases c39 : t194 = true
                   ·subst c39
                    have H1 : (if x7_2 < (x3_2.length : Int) then (colour_Mark.l1 kj16 l0 (x3_2.set (x7_2 : Int).toNat (⟨26, (⟨#[]⟩ : ByteArray), (⟨#[]⟩ : ByteArray), (⟨false, (⟨#[]⟩ : ByteArray), (⟨#[]⟩ : ByteArray)⟩ : S32), false, false, (⟨t190, t191, t192, t193⟩ : S33), (rd_T35 l0 x7_2).f7⟩ : S35)) t175 (rd t178 x17_1) (wrap64 (x7_2 + 1)) t178 (t178.length : Int) x17_1) else (none)) = some r := by rw [if_pos rfl] at H; exact H
                    clear H
                    have H := H1
                    clear H1
                    by_cases c40 : x7_2 < (x3_2.length : Int)
                    ·rw [if_pos c40] at H
                     have c40b0 : decide (x7_2 < (x3_2.length : Int)) = true := decide_eq_true c40
                     clear c40
                     obtain ⟨y197, hy197⟩ : ∃ y_ : List (S35), y_ = (x3_2.set (x7_2 : Int).toNat (⟨26, (⟨#[]⟩ : ByteArray), (⟨#[]⟩ : ByteArray), (⟨false, (⟨#[]⟩ : ByteArray), (⟨#[]⟩ : ByteArray)⟩ : S32), false, false, (⟨t190, t191, t192, t193⟩ : S33), (rd_T35 l0 x7_2).f7⟩ : S35)) := ⟨_, rfl⟩
                     replace H : (colour_Mark.l1 kj16 l0 y197 t175 (rd t178 x17_1) (wrap64 (x7_2 + 1)) t178 (t178.length : Int) x17_1) = some r := by first | (rw [hy197]; with_reducible exact H) | (have H2_ := (Option.bind_some _ _).symm.trans H; rw [hy197]; with_reducible exact H2_) | (have H2_ := (Option.bind_some _ _).symm.trans H; with_reducible exact H2_) | with_reducible exact H | (rw [hy197]; exact H) | exact H
                     have Ny197 := Aside0.mk hy197
                     clear hy197
                     have H' := Aside0.mk H
                     clear H
                     try go_wp2
                     have n0_ := Aside0.mk (Kd.R_drew HO_3.out)
                     have n1_ := Aside0.mk (Kd.R_drew HO_4.out)
                     have n2_ := Aside0.mk (Kd.R_drew HO_15.out)
                     have n3_ := Aside0.mk (below_drew1 HB.out)
                     clear HO_3
                     clear HO_4
                     clear HO_15
                     clear HB
                     have HO_3 := n0_
                     have HO_4 := n1_
                     have HO_15 := n2_
                     have HB := n3_
                     clear n0_ n1_ n2_ n3_
                     obtain ⟨Ao43, co43, eo43⟩ := Kd.R_slice HO_4.out
                     (first | subst eo43 | (injection eo43 with f1_ f2_ f3_; have f4_ := f1_.symm; have f5_ := f3_.symm; clear f1_ f2_ f3_; subst f4_; subst f5_))
                     have p186 : 0 ≤ (x7_2 : Int) := of_decide_eq_true (by first | (with_reducible assumption) | assumption)
                     have q186 : x7_2 < (t175.length : Int) := of_decide_eq_true (by first | (with_reducible assumption) | assumption)
                     obtain ⟨ad186, e186, hx186_0, hx186_1, hx186_2⟩ := at_T46 (Kd.R_reads' HO_4.out).2.2 x7_2 p186 q186
                     cases e186
                     replace p186 := eq_true p186
                     replace q186 := eq_true q186
                     have p187 : 0 ≤ ((rd t178 x17_1) : Int) := of_decide_eq_true (by first | (with_reducible assumption) | assumption)
                     have q187 : (rd t178 x17_1) < (t175.length : Int) := of_decide_eq_true (by first | (with_reducible assumption) | assumption)
                     obtain ⟨ad187, e187, hx187_0, hx187_1, hx187_2⟩ := at_T46 (Kd.R_reads' HO_4.out).2.2 (rd t178 x17_1) p187 q187
                     obtain rfl : ad186 = ad187 := (by injection e187)
                     replace p187 := eq_true p187
                     replace q187 := eq_true q187
                     refine start_ (n := 11) (S := fun w' => w'.cell? (ad186.add ((x7_2).toNat * 3)) = some (.int .i64 ((rd_T46 t175 x7_2).f0)) ∧ w'.cell? ⟨(ad186.add ((x7_2).toNat * 3)).block, (ad186.add ((x7_2).toNat * 3)).off + 1, none⟩ = some (.bool ((rd_T46 t175 x7_2).f1)) ∧ w'.cell? ⟨(ad186.add ((x7_2).toNat * 3)).block, (ad186.add ((x7_2).toNat * 3)).off + 2, none⟩ = some (.bool ((rd_T46 t175 x7_2).f2)) ∧ w'.cell? (ad186.add (((rd t178 x17_1)).toNat * 3)) = some (.int .i64 ((rd_T46 t175 (rd t178 x17_1)).f0)) ∧ w'.cell? ⟨(ad186.add (((rd t178 x17_1)).toNat * 3)).block, (ad186.add (((rd t178 x17_1)).toNat * 3)).off + 1, none⟩ = some (.bool ((rd_T46 t175 (rd t178 x17_1)).f1)) ∧ w'.cell? ⟨(ad186.add (((rd t178 x17_1)).toNat * 3)).block, (ad186.add (((rd t178 x17_1)).toNat * 3)).off + 2, none⟩ = some (.bool ((rd_T46 t175 (rd t178 x17_1)).f2))) (ds := []) #[false, false, false, false, false, false, false, false, false, false, false] (by kernel_rfl) rfl rfl ⟨hx186_0, hx186_1, hx186_2, hx187_0, hx187_1, hx187_2⟩ (fun hHeld => ?_); refine with_tabW colour_Mark.tab10 colour_Mark.bits10 (fun HT_ HW_ => ?_)
                     generalize wc.drew = w42 at HO_3 HO_4 HO_15 HB hx186_0 hx186_1 hx186_2 hx187_0 hx187_1 hx187_2 hHeld ⊢
                     refine pure_ (i := 0) (N := some 47) (v := ?_) (a' := ?_) #[true, false, false, false, false, false, false, false, false, false, false] rfl rfl (any_of HT_.out (by kernel_rfl)) (fun _ _ _ h => h) (Or.inl ⟨by rfl, ?_⟩) ?_ ?_
                     rotate_left
                     ·intro w'
                      go_simp
                      with_reducible rfl
                     rotate_left
                     ·simp only [Act.put, List.setIfInBounds_toArray, List.set_cons_zero, List.set_cons_succ, i64_w, i32_w]
                      rfl
                     refine pure_ (i := 1) (N := some 48) (v := ?_) (a' := ?_) #[true, true, false, false, false, false, false, false, false, false, false] rfl rfl (any_of HT_.out (by kernel_rfl)) (fun _ _ _ h => h) (Or.inl ⟨by rfl, ?_⟩) ?_ ?_
                     rotate_left
                     ·intro w'
                      go_simp
                      with_reducible rfl
                     rotate_left
                     ·simp only [Act.put, List.setIfInBounds_toArray, List.set_cons_zero, List.set_cons_succ, i64_w, i32_w]
                      rfl
                     refine pure_ (i := 2) (N := some 49) (v := ?_) (a' := ?_) #[true, true, true, false, false, false, false, false, false, false, false] rfl rfl (any_of HT_.out (by kernel_rfl)) (fun _ _ _ h => h) (Or.inl ⟨by rfl, ?_⟩) ?_ ?_
                     rotate_left
                     ·intro w'
                      go_simp
                      with_reducible rfl
                     rotate_left
                     ·simp only [Act.put, List.setIfInBounds_toArray, List.set_cons_zero, List.set_cons_succ, i64_w, i32_w]
                      rfl
                     refine pure_ (i := 3) (N := some 50) (v := ?_) (a' := ?_) #[true, true, true, true, false, false, false, false, false, false, false] rfl rfl (any_of HT_.out (by kernel_rfl)) (fun _ _ _ h => h) (Or.inl ⟨by rfl, ?_⟩) ?_ ?_
                     rotate_left
                     ·intro w'
                      go_simp
                      with_reducible rfl
                     rotate_left
                     ·simp only [Act.put, List.setIfInBounds_toArray, List.set_cons_zero, List.set_cons_succ, i64_w, i32_w]
                      rfl
                     refine pure_ (i := 5) (N := some 52) (v := ?_) (a' := ?_) #[true, true, true, true, false, true, false, false, false, false, false] rfl rfl (any_of HT_.out (by kernel_rfl)) (fun _ _ _ h => h) (Or.inl ⟨by rfl, ?_⟩) ?_ ?_
                     rotate_left
                     ·intro w'
                      go_simp
                      with_reducible rfl
                     rotate_left
                     ·simp only [Act.put, List.setIfInBounds_toArray, List.set_cons_zero, List.set_cons_succ, i64_w, i32_w]
                      rfl
                     refine pure_ (i := 6) (N := some 53) (v := ?_) (a' := ?_) #[true, true, true, true, false, true, true, false, false, false, false] rfl rfl (any_of HT_.out (by kernel_rfl)) (fun _ _ _ h => h) (Or.inl ⟨by rfl, ?_⟩) ?_ ?_
                     rotate_left
                     ·intro w'
                      go_simp
                      with_reducible rfl
                     rotate_left
                     ·simp only [Act.put, List.setIfInBounds_toArray, List.set_cons_zero, List.set_cons_succ, i64_w, i32_w]
                      rfl
                     refine pure_ (i := 7) (N := some 54) (v := ?_) (a' := ?_) #[true, true, true, true, false, true, true, true, false, false, false] rfl rfl (any_of HT_.out (by kernel_rfl)) (fun _ _ _ h => h) (Or.inl ⟨by rfl, ?_⟩) ?_ ?_
                     rotate_left
                     ·intro w'
                      go_simp
                      with_reducible rfl
                     rotate_left
                     ·simp only [Act.put, List.setIfInBounds_toArray, List.set_cons_zero, List.set_cons_succ, i64_w, i32_w]
                      rfl
                     refine pure_ (i := 8) (N := some 55) (v := ?_) (a' := ?_) #[true, true, true, true, false, true, true, true, true, false, false] rfl rfl (any_of HT_.out (by kernel_rfl)) (fun _ _ _ h => h) (Or.inl ⟨by rfl, ?_⟩) ?_ ?_
                     rotate_left
                     ·intro w'
                      go_simp
                      with_reducible rfl
                     rotate_left
                     ·simp only [Act.put, List.setIfInBounds_toArray, List.set_cons_zero, List.set_cons_succ, i64_w, i32_w]
                      rfl
                     refine take_ (i := 4) (N := some 51) (v := ?_) (a' := ?_) #[true, true, true, true, true, true, true, true, true, false, false] rfl rfl (take_ofW HT_.out HW_.out (by kernel_rfl)) (fun _ _ _ h => h) (Or.inl ⟨by rfl, ?_⟩) hHeld ?_ ?_
                     rotate_left
                     ·rintro w' ⟨s0, s1, s2, s3, s4, s5⟩
                      go_simp
                      with_reducible rfl
                     rotate_left
                     ·simp only [Act.put, List.setIfInBounds_toArray, List.set_cons_zero, List.set_cons_succ, i64_w, i32_w]
                      rfl
                     refine take_ (i := 9) (N := some 56) (v := ?_) (a' := ?_) #[true, true, true, true, true, true, true, true, true, true, false] rfl rfl (take_ofW HT_.out HW_.out (by kernel_rfl)) (fun _ _ _ h => h) (Or.inl ⟨by rfl, ?_⟩) hHeld ?_ ?_
                     rotate_left
                     ·rintro w' ⟨s0, s1, s2, s3, s4, s5⟩
                      go_simp
                      with_reducible rfl
                     rotate_left
                     ·simp only [Act.put, List.setIfInBounds_toArray, List.set_cons_zero, List.set_cons_succ, i64_w, i32_w]
                      rfl
                     refine pure_ (i := 10) (N := some 57) (v := ?_) (a' := ?_) #[true, true, true, true, true, true, true, true, true, true, true] rfl rfl (any_of HT_.out (by kernel_rfl)) (fun _ _ _ h => h) (Or.inl ⟨by rfl, ?_⟩) ?_ ?_
                     rotate_left
                     ·intro w'
                      go_simp
                      with_reducible rfl
                     rotate_left
                     ·simp only [Act.put, List.setIfInBounds_toArray, List.set_cons_zero, List.set_cons_succ, i64_w, i32_w]
                      rfl
                     refine done_ (done_of HT_.out (by kernel_rfl)) ?_
                     have p188 : 0 ≤ (x7_2 : Int) := of_decide_eq_true (by first | (with_reducible assumption) | assumption)
                     have q188 : x7_2 < (l0.length : Int) := of_decide_eq_true (by first | (with_reducible assumption) | assumption)
                     obtain ⟨ad188, e188, hx188_0, hx188_1, hx188_2, hx188_3, hx188_4, hx188_5, hx188_6, hx188_7, hx188_8, hx188_9, hx188_10, hx188_11, hx188_12⟩ := at_T35 HR0.out x7_2 p188 q188
                     cases e188
                     replace hx188_0 := clB HB.out hx188_0
                     replace hx188_1 := clB HB.out hx188_1
                     replace hx188_2 := clB HB.out hx188_2
                     replace hx188_3 := clB HB.out hx188_3
                     replace hx188_4 := clB HB.out hx188_4
                     replace hx188_5 := clB HB.out hx188_5
                     replace hx188_6 := clB HB.out hx188_6
                     replace hx188_7 := clB HB.out hx188_7
                     replace hx188_8 := clB HB.out hx188_8
                     replace hx188_9 := clB HB.out hx188_9
                     replace hx188_10 := clB HB.out hx188_10
                     replace hx188_11 := clB HB.out hx188_11
                     replace hx188_12 := clB HB.out hx188_12
                     replace p188 := eq_true p188
                     replace q188 := eq_true q188
                     have p189 : 0 ≤ (x7_2 : Int) := of_decide_eq_true (by first | (with_reducible assumption) | assumption)
                     have q189 : x7_2 < (l0.length : Int) := of_decide_eq_true (by first | (with_reducible assumption) | assumption)
                     obtain ⟨ad189, e189, hx189_0, hx189_1, hx189_2, hx189_3, hx189_4, hx189_5, hx189_6, hx189_7, hx189_8, hx189_9, hx189_10, hx189_11, hx189_12⟩ := at_T35 HR0.out x7_2 p189 q189
                     obtain rfl : ad188 = ad189 := (by injection e189)
                     replace hx189_0 := clB HB.out hx189_0
                     replace hx189_1 := clB HB.out hx189_1
                     replace hx189_2 := clB HB.out hx189_2
                     replace hx189_3 := clB HB.out hx189_3
                     replace hx189_4 := clB HB.out hx189_4
                     replace hx189_5 := clB HB.out hx189_5
                     replace hx189_6 := clB HB.out hx189_6
                     replace hx189_7 := clB HB.out hx189_7
                     replace hx189_8 := clB HB.out hx189_8
                     replace hx189_9 := clB HB.out hx189_9
                     replace hx189_10 := clB HB.out hx189_10
                     replace hx189_11 := clB HB.out hx189_11
                     replace hx189_12 := clB HB.out hx189_12
                     replace p189 := eq_true p189
                     replace q189 := eq_true q189
                     try go_wp2_with (first | ((with_reducible refine gate_callee (f := 16) rfl ?_); refine goesL_ (some 69) rfl rfl Tryz.func16 (by kernel_rfl) rfl #[.agg #[.int .i64 ((rd_T35 l0 x7_2).f0), .string ((rd_T35 l0 x7_2).f1), .string ((rd_T35 l0 x7_2).f2), .bool ((rd_T35 l0 x7_2).f3.f0), .string ((rd_T35 l0 x7_2).f3.f1), .string ((rd_T35 l0 x7_2).f3.f2), .bool ((rd_T35 l0 x7_2).f4), .bool ((rd_T35 l0 x7_2).f5), .int .i64 ((rd_T35 l0 x7_2).f6.f0), .int .i64 ((rd_T35 l0 x7_2).f6.f1), .int .i64 ((rd_T35 l0 x7_2).f6.f2), .int .i64 ((rd_T35 l0 x7_2).f6.f3), .int .i64 ((rd_T35 l0 x7_2).f7)]] rfl agP ?_; (with_reducible refine (colour_Read.calls ((rd_T35 l0 x7_2).f0) ((rd_T35 l0 x7_2).f1) ((rd_T35 l0 x7_2).f2) ((rd_T35 l0 x7_2).f3.f0) ((rd_T35 l0 x7_2).f3.f1) ((rd_T35 l0 x7_2).f3.f2) ((rd_T35 l0 x7_2).f4) ((rd_T35 l0 x7_2).f5) ((rd_T35 l0 x7_2).f6.f0) ((rd_T35 l0 x7_2).f6.f1) ((rd_T35 l0 x7_2).f6.f2) ((rd_T35 l0 x7_2).f6.f3) ((rd_T35 l0 x7_2).f7) t190 t191 t192 t193 true _ ?side1 A38.out).mono ?_); (case side1 => first | exact hL | exact LaidW.below hL (hbP0 HB.out) | (repeat (first | exact hL | apply LaidW.drewN | apply LaidW.drew))); rintro e w44 ⟨rfl, hb⟩; refine ⟨_, rfl, ?_⟩; have n0_ := Aside0.mk (Kd.R_below (rwP HO_3.out) hb); have n1_ := Aside0.mk (Kd.R_below (rwP HO_4.out) hb); have n2_ := Aside0.mk (Kd.R_below (rwP HO_15.out) hb); have n3_ := Aside0.mk (below_step (hbP0 HB.out) hb); clear HO_3; clear HO_4; clear HO_15; clear HB; have HO_3 := n0_; have HO_4 := n1_; have HO_15 := n2_; have HB := n3_; clear n0_ n1_ n2_ n3_; (try clear hb); (try clear hb2); (try clear hk); (try clear hi)) | ((with_reducible refine gate_dst (N := 8) rfl ?_); refine box_event ?hg (N := 8) ?hd (cs := #[.int .i64 0, .int .i64 0, .int .i64 0, .int .i64 0]) (t := 33) ?hr ?_; (case hd => rfl); (case hg => rfl); (case hr => first | (go_simp; done) | (go_simp; rfl)); intro gb195 hg w45 hbox hb; have n0_ := Aside0.mk (Kd.R_below (rwP HO_3.out) hb); have n1_ := Aside0.mk (Kd.R_below (rwP HO_4.out) hb); have n2_ := Aside0.mk (Kd.R_below (rwP HO_15.out) hb); have n3_ := Aside0.mk (below_step (hbP0 HB.out) hb); have n4_ := Aside0.mk (hbox); have n5_ := Aside0.mk ((by rw [hg]; exact (below_size (hbP0 HB.out)) : w.heap.size ≤ gb195)); have n6_ := Aside0.mk ((by rw [hg]; exact (below_size (hbP0 HB.out)) : w.heap.size ≤ gb195)); clear HO_3; clear HO_4; clear HO_15; clear HB; have HO_3 := n0_; have HO_4 := n1_; have HO_15 := n2_; have HB := n3_; have BK195 := n4_; have GW195 := n5_; have GE195 := n6_; clear n0_ n1_ n2_ n3_ n4_ n5_ n6_; clear hb hbox hg; have hcz46_0 : w45.cell? ⟨gb195, 0, none⟩ = some (.int .i64 0) := (blk_cell BK195.out 0).trans rfl; have hcz46_1 : w45.cell? ⟨gb195, 1, none⟩ = some (.int .i64 0) := (blk_cell BK195.out 1).trans rfl; have hcz46_2 : w45.cell? ⟨gb195, 2, none⟩ = some (.int .i64 0) := (blk_cell BK195.out 2).trans rfl; have hcz46_3 : w45.cell? ⟨gb195, 3, none⟩ = some (.int .i64 0) := (blk_cell BK195.out 3).trans rfl; have hfz46_0 := blk_frozen BK195.out 0; have hfz46_1 := blk_frozen BK195.out 1; have hfz46_2 := blk_frozen BK195.out 2; have hfz46_3 := blk_frozen BK195.out 3))
                     have n0_ : Aside0 (Kd.R k35 35 ((((w45.setCell ⟨gb195, 0, none⟩ (.int .i64 t190)).setCell ⟨gb195, 1, none⟩ (.int .i64 t191)).setCell ⟨gb195, 2, none⟩ (.int .i64 t192)).setCell ⟨gb195, 3, none⟩ (.int .i64 t193)) w.heap.size (fun _ => True) v173 x3_2) := ⟨by (with_reducible repeat (first | apply Kd.R_alloc | apply Kd.R_drewN | apply Kd.R_drew)); exact Kd.R_mono (Kd.R_far (p := ⟨gb195, 3, none⟩) (Kd.R_far (p := ⟨gb195, 2, none⟩) (Kd.R_far (p := ⟨gb195, 1, none⟩) (Kd.R_far (p := ⟨gb195, 0, none⟩) (Kd.R_types HO_3.out BK195.out (by decide)) (fun _ hk => hk.2) (.int .i64 t190)) (fun _ hk => hk.2) (.int .i64 t191)) (fun _ hk => hk.2) (.int .i64 t192)) (fun _ hk => hk.2) (.int .i64 t193)) (fun _ hk => trivial)⟩
                     have n1_ : Aside0 (Kd.R k46 46 ((((w45.setCell ⟨gb195, 0, none⟩ (.int .i64 t190)).setCell ⟨gb195, 1, none⟩ (.int .i64 t191)).setCell ⟨gb195, 2, none⟩ (.int .i64 t192)).setCell ⟨gb195, 3, none⟩ (.int .i64 t193)) w.heap.size (fun _ => True) (.slice (some ad186) t175.length co43) t175) := ⟨by (with_reducible repeat (first | apply Kd.R_alloc | apply Kd.R_drewN | apply Kd.R_drew)); exact Kd.R_mono (Kd.R_far (p := ⟨gb195, 3, none⟩) (Kd.R_far (p := ⟨gb195, 2, none⟩) (Kd.R_far (p := ⟨gb195, 1, none⟩) (Kd.R_far (p := ⟨gb195, 0, none⟩) (Kd.R_types HO_4.out BK195.out (by decide)) (fun _ hk => hk.2) (.int .i64 t190)) (fun _ hk => hk.2) (.int .i64 t191)) (fun _ hk => hk.2) (.int .i64 t192)) (fun _ hk => hk.2) (.int .i64 t193)) (fun _ hk => trivial)⟩
                     have n2_ : Aside0 (Kd.R (Kd.int .i64) 3 ((((w45.setCell ⟨gb195, 0, none⟩ (.int .i64 t190)).setCell ⟨gb195, 1, none⟩ (.int .i64 t191)).setCell ⟨gb195, 2, none⟩ (.int .i64 t192)).setCell ⟨gb195, 3, none⟩ (.int .i64 t193)) w.heap.size (fun _ => True) (.slice (some ad181) t178.length co8) t178) := ⟨by (with_reducible repeat (first | apply Kd.R_alloc | apply Kd.R_drewN | apply Kd.R_drew)); exact Kd.R_mono (Kd.R_far (p := ⟨gb195, 3, none⟩) (Kd.R_far (p := ⟨gb195, 2, none⟩) (Kd.R_far (p := ⟨gb195, 1, none⟩) (Kd.R_far (p := ⟨gb195, 0, none⟩) (Kd.R_types HO_15.out BK195.out (by decide)) (fun _ hk => hk.2) (.int .i64 t190)) (fun _ hk => hk.2) (.int .i64 t191)) (fun _ hk => hk.2) (.int .i64 t192)) (fun _ hk => hk.2) (.int .i64 t193)) (fun _ hk => trivial)⟩
                     have n3_ : Aside0 (((((w45.setCell ⟨gb195, 0, none⟩ (.int .i64 t190)).setCell ⟨gb195, 1, none⟩ (.int .i64 t191)).setCell ⟨gb195, 2, none⟩ (.int .i64 t192)).setCell ⟨gb195, 3, none⟩ (.int .i64 t193)).heap[gb195]? = some (.cells #[.int .i64 t190, .int .i64 t191, .int .i64 t192, .int .i64 t193] 33 (0, 0))) := ⟨by (with_reducible repeat (first | refine blk_drewN ?_ _ | refine blk_drew ?_ | refine blk_alloc ?_ _)); refine blk_put (cs := #[.int .i64 t190, .int .i64 t191, .int .i64 t192, .int .i64 0]) ?_ 3 _ rfl; (with_reducible repeat (first | refine blk_drewN ?_ _ | refine blk_drew ?_ | refine blk_alloc ?_ _)); refine blk_put (cs := #[.int .i64 t190, .int .i64 t191, .int .i64 0, .int .i64 0]) ?_ 2 _ rfl; (with_reducible repeat (first | refine blk_drewN ?_ _ | refine blk_drew ?_ | refine blk_alloc ?_ _)); refine blk_put (cs := #[.int .i64 t190, .int .i64 0, .int .i64 0, .int .i64 0]) ?_ 1 _ rfl; (with_reducible repeat (first | refine blk_drewN ?_ _ | refine blk_drew ?_ | refine blk_alloc ?_ _)); refine blk_put (cs := #[.int .i64 0, .int .i64 0, .int .i64 0, .int .i64 0]) ?_ 0 _ rfl; exact bkP BK195.out⟩
                     have n4_ : Aside0 (Below w.heap.size w ((((w45.setCell ⟨gb195, 0, none⟩ (.int .i64 t190)).setCell ⟨gb195, 1, none⟩ (.int .i64 t191)).setCell ⟨gb195, 2, none⟩ (.int .i64 t192)).setCell ⟨gb195, 3, none⟩ (.int .i64 t193))) := ⟨hbP1 HB.out GE195.out⟩
                     (try clear HO_3)
                     (try clear HO_4)
                     (try clear HO_15)
                     (try clear BK195)
                     (try clear HB)
                     generalize ((((w45.setCell ⟨gb195, 0, none⟩ (.int .i64 t190)).setCell ⟨gb195, 1, none⟩ (.int .i64 t191)).setCell ⟨gb195, 2, none⟩ (.int .i64 t192)).setCell ⟨gb195, 3, none⟩ (.int .i64 t193)) = w47 at n0_ n1_ n2_ n3_ n4_ ⊢
                     have HO_3 := n0_
                     have HO_4 := n1_
                     have HO_15 := n2_
                     have BK195 := n3_
                     have HB := n4_
                     clear n0_ n1_ n2_ n3_ n4_
                     have n0_ := Aside0.mk (Kd.R_drew HO_3.out)
                     have n1_ := Aside0.mk (Kd.R_drew HO_4.out)
                     have n2_ := Aside0.mk (Kd.R_drew HO_15.out)
                     have n3_ := Aside0.mk (blk_drew BK195.out)
                     have n4_ := Aside0.mk (below_drew1 HB.out)
                     clear HO_3
                     clear HO_4
                     clear HO_15
                     clear BK195
                     clear HB
                     have HO_3 := n0_
                     have HO_4 := n1_
                     have HO_15 := n2_
                     have BK195 := n3_
                     have HB := n4_
                     clear n0_ n1_ n2_ n3_ n4_
                     have p196 : 0 ≤ (x7_2 : Int) := of_decide_eq_true (by first | (with_reducible assumption) | assumption)
                     have q196 : x7_2 < (l0.length : Int) := of_decide_eq_true (by first | (with_reducible assumption) | assumption)
                     obtain ⟨ad196, e196, hx196_0, hx196_1, hx196_2, hx196_3, hx196_4, hx196_5, hx196_6, hx196_7, hx196_8, hx196_9, hx196_10, hx196_11, hx196_12⟩ := at_T35 HR0.out x7_2 p196 q196
                     have hw196_12 := hx196_12
                     have hw196_11 := hx196_11
                     have hw196_10 := hx196_10
                     have hw196_9 := hx196_9
                     have hw196_8 := hx196_8
                     have hw196_7 := hx196_7
                     have hw196_6 := hx196_6
                     have hw196_5 := hx196_5
                     have hw196_4 := hx196_4
                     have hw196_3 := hx196_3
                     have hw196_2 := hx196_2
                     have hw196_1 := hx196_1
                     have hw196_0 := hx196_0
                     obtain rfl : ad188 = ad196 := (by injection e196)
                     replace hx196_0 := clB HB.out hx196_0
                     replace hx196_1 := clB HB.out hx196_1
                     replace hx196_2 := clB HB.out hx196_2
                     replace hx196_3 := clB HB.out hx196_3
                     replace hx196_4 := clB HB.out hx196_4
                     replace hx196_5 := clB HB.out hx196_5
                     replace hx196_6 := clB HB.out hx196_6
                     replace hx196_7 := clB HB.out hx196_7
                     replace hx196_8 := clB HB.out hx196_8
                     replace hx196_9 := clB HB.out hx196_9
                     replace hx196_10 := clB HB.out hx196_10
                     replace hx196_11 := clB HB.out hx196_11
                     replace hx196_12 := clB HB.out hx196_12
                     replace p196 := eq_true p196
                     replace q196 := eq_true q196
                     have p41 : 0 ≤ (x7_2 : Int) := of_decide_eq_true (by first | (with_reducible assumption) | assumption)
                     have q41 : (x7_2 : Int) < ((x3_2.length : Int) : Int) := of_decide_eq_true (by first | (with_reducible assumption) | assumption)
                     obtain ⟨go41, co41, eo41, gb41, gl41, cl41, HG41⟩ := Kd.R_form HO_3.out (by omega)
                     (first | cases eo41 | (injection eo41 with ea_ en_ ec_; (first | subst ea_ | (injection ea_ with ea_; subst ea_)); subst ec_; clear en_))
                     have GB41 := Aside0.mk gb41
                     have GG41 := Aside0.mk HG41
                     clear gb41 gl41 HG41
                     obtain ⟨ce41, hcl41, hM41, hcc41, hfr41⟩ := Kd.R_elem HO_3.out z35 (x7_2 : Int) p41 q41
                     obtain rfl := k35_openM hM41
                     have hx41_0 : World.cell? _ ⟨go41, (x7_2 : Int).toNat * 13, none⟩ = some (.int .i64 ((rd_T35 x3_2 x7_2).f0)) := hcc41 0 _ rfl
                     have hx41_1 : World.cell? _ ⟨go41, (x7_2 : Int).toNat * 13 + 1, none⟩ = some (.string ((rd_T35 x3_2 x7_2).f1)) := hcc41 1 _ rfl
                     have hx41_2 : World.cell? _ ⟨go41, (x7_2 : Int).toNat * 13 + 2, none⟩ = some (.string ((rd_T35 x3_2 x7_2).f2)) := hcc41 2 _ rfl
                     have hx41_3 : World.cell? _ ⟨go41, (x7_2 : Int).toNat * 13 + 3, none⟩ = some (.bool ((rd_T35 x3_2 x7_2).f3.f0)) := hcc41 3 _ rfl
                     have hx41_4 : World.cell? _ ⟨go41, (x7_2 : Int).toNat * 13 + 4, none⟩ = some (.string ((rd_T35 x3_2 x7_2).f3.f1)) := hcc41 4 _ rfl
                     have hx41_5 : World.cell? _ ⟨go41, (x7_2 : Int).toNat * 13 + 5, none⟩ = some (.string ((rd_T35 x3_2 x7_2).f3.f2)) := hcc41 5 _ rfl
                     have hx41_6 : World.cell? _ ⟨go41, (x7_2 : Int).toNat * 13 + 6, none⟩ = some (.bool ((rd_T35 x3_2 x7_2).f4)) := hcc41 6 _ rfl
                     have hx41_7 : World.cell? _ ⟨go41, (x7_2 : Int).toNat * 13 + 7, none⟩ = some (.bool ((rd_T35 x3_2 x7_2).f5)) := hcc41 7 _ rfl
                     have hx41_8 : World.cell? _ ⟨go41, (x7_2 : Int).toNat * 13 + 8, none⟩ = some (.int .i64 ((rd_T35 x3_2 x7_2).f6.f0)) := hcc41 8 _ rfl
                     have hx41_9 : World.cell? _ ⟨go41, (x7_2 : Int).toNat * 13 + 9, none⟩ = some (.int .i64 ((rd_T35 x3_2 x7_2).f6.f1)) := hcc41 9 _ rfl
                     have hx41_10 : World.cell? _ ⟨go41, (x7_2 : Int).toNat * 13 + 10, none⟩ = some (.int .i64 ((rd_T35 x3_2 x7_2).f6.f2)) := hcc41 10 _ rfl
                     have hx41_11 : World.cell? _ ⟨go41, (x7_2 : Int).toNat * 13 + 11, none⟩ = some (.int .i64 ((rd_T35 x3_2 x7_2).f6.f3)) := hcc41 11 _ rfl
                     have hx41_12 : World.cell? _ ⟨go41, (x7_2 : Int).toNat * 13 + 12, none⟩ = some (.int .i64 ((rd_T35 x3_2 x7_2).f7)) := hcc41 12 _ rfl
                     have hf41_0 : World.frozen? _ ⟨go41, (x7_2 : Int).toNat * 13, none⟩ = false := hfr41 0
                     have hf41_1 : World.frozen? _ ⟨go41, (x7_2 : Int).toNat * 13 + 1, none⟩ = false := hfr41 1
                     have hf41_2 : World.frozen? _ ⟨go41, (x7_2 : Int).toNat * 13 + 2, none⟩ = false := hfr41 2
                     have hf41_3 : World.frozen? _ ⟨go41, (x7_2 : Int).toNat * 13 + 3, none⟩ = false := hfr41 3
                     have hf41_4 : World.frozen? _ ⟨go41, (x7_2 : Int).toNat * 13 + 4, none⟩ = false := hfr41 4
                     have hf41_5 : World.frozen? _ ⟨go41, (x7_2 : Int).toNat * 13 + 5, none⟩ = false := hfr41 5
                     have hf41_6 : World.frozen? _ ⟨go41, (x7_2 : Int).toNat * 13 + 6, none⟩ = false := hfr41 6
                     have hf41_7 : World.frozen? _ ⟨go41, (x7_2 : Int).toNat * 13 + 7, none⟩ = false := hfr41 7
                     have hf41_8 : World.frozen? _ ⟨go41, (x7_2 : Int).toNat * 13 + 8, none⟩ = false := hfr41 8
                     have hf41_9 : World.frozen? _ ⟨go41, (x7_2 : Int).toNat * 13 + 9, none⟩ = false := hfr41 9
                     have hf41_10 : World.frozen? _ ⟨go41, (x7_2 : Int).toNat * 13 + 10, none⟩ = false := hfr41 10
                     have hf41_11 : World.frozen? _ ⟨go41, (x7_2 : Int).toNat * 13 + 11, none⟩ = false := hfr41 11
                     have hf41_12 : World.frozen? _ ⟨go41, (x7_2 : Int).toNat * 13 + 12, none⟩ = false := hfr41 12
                     clear hcl41 hcc41 hfr41 hM41
                     replace p41 := eq_true p41
                     replace q41 := eq_true q41
                     obtain ⟨ce49, hcl49, hM49, hcc49, hfr49⟩ := Kd.R_elem HO_3.out z35 (x7_2 : Int) (of_decide_eq_true (by first | (with_reducible assumption) | assumption)) (by have h_ : (x7_2 : Int) < ((x3_2.length : Int) : Int) := of_decide_eq_true (by first | (with_reducible assumption) | assumption); first | exact h_ | (have e_ := (Kd.R_reads' HO_3.out).1; omega) | simpa using h_)
                     obtain rfl := k35_openM hM49
                     have HP49 := (Kd.R_seg HO_3.out (x7_2 : Int) (of_decide_eq_true (by first | (with_reducible assumption) | assumption)) (by have h_ : (x7_2 : Int) < ((x3_2.length : Int) : Int) := of_decide_eq_true (by first | (with_reducible assumption) | assumption); first | exact h_ | (have e_ := (Kd.R_reads' HO_3.out).1; omega) | simpa using h_) (seg := [.int .i64 26, .string (⟨#[]⟩ : ByteArray), .string (⟨#[]⟩ : ByteArray), .bool false, .string (⟨#[]⟩ : ByteArray), .string (⟨#[]⟩ : ByteArray), .bool false, .bool false, .int .i64 t190, .int .i64 t191, .int .i64 t192, .int .i64 t193, .int .i64 ((rd_T35 l0 x7_2).f7)]) (j := 0) hcl49 hcc49 (show 13 ≤ 13 from by decide) (x' := (⟨26, (⟨#[]⟩ : ByteArray), (⟨#[]⟩ : ByteArray), (⟨false, (⟨#[]⟩ : ByteArray), (⟨#[]⟩ : ByteArray)⟩ : S32), false, false, (⟨t190, t191, t192, t193⟩ : S33), (rd_T35 l0 x7_2).f7⟩ : S35)) (k35_mkM _ _ _ (⟨26, (⟨#[]⟩ : ByteArray), (⟨#[]⟩ : ByteArray), (⟨false, (⟨#[]⟩ : ByteArray), (⟨#[]⟩ : ByteArray)⟩ : S32), false, false, (⟨t190, t191, t192, t193⟩ : S33), (rd_T35 l0 x7_2).f7⟩ : S35) ) (fun _ hk => hk)).1
                     rw [← Ny197.out] at HP49
                     have HQ49 := Aside0.mk HP49
                     clear hcl49 hcc49 hfr49 hM49 HP49
                     refine start_ (n := 11) (S := fun w' => w'.cell? ⟨gb195, 0, none⟩ = some (.int .i64 t190) ∧ w'.cell? ⟨gb195, 1, none⟩ = some (.int .i64 t191) ∧ w'.cell? ⟨gb195, 2, none⟩ = some (.int .i64 t192) ∧ w'.cell? ⟨gb195, 3, none⟩ = some (.int .i64 t193) ∧ w'.cell? (ad188.add ((x7_2).toNat * 13)) = some (.int .i64 ((rd_T35 l0 x7_2).f0)) ∧ w'.cell? ⟨(ad188.add ((x7_2).toNat * 13)).block, (ad188.add ((x7_2).toNat * 13)).off + 1, none⟩ = some (.string ((rd_T35 l0 x7_2).f1)) ∧ w'.cell? ⟨(ad188.add ((x7_2).toNat * 13)).block, (ad188.add ((x7_2).toNat * 13)).off + 2, none⟩ = some (.string ((rd_T35 l0 x7_2).f2)) ∧ w'.cell? ⟨(ad188.add ((x7_2).toNat * 13)).block, (ad188.add ((x7_2).toNat * 13)).off + 3, none⟩ = some (.bool ((rd_T35 l0 x7_2).f3.f0)) ∧ w'.cell? ⟨(ad188.add ((x7_2).toNat * 13)).block, (ad188.add ((x7_2).toNat * 13)).off + 4, none⟩ = some (.string ((rd_T35 l0 x7_2).f3.f1)) ∧ w'.cell? ⟨(ad188.add ((x7_2).toNat * 13)).block, (ad188.add ((x7_2).toNat * 13)).off + 5, none⟩ = some (.string ((rd_T35 l0 x7_2).f3.f2)) ∧ w'.cell? ⟨(ad188.add ((x7_2).toNat * 13)).block, (ad188.add ((x7_2).toNat * 13)).off + 6, none⟩ = some (.bool ((rd_T35 l0 x7_2).f4)) ∧ w'.cell? ⟨(ad188.add ((x7_2).toNat * 13)).block, (ad188.add ((x7_2).toNat * 13)).off + 7, none⟩ = some (.bool ((rd_T35 l0 x7_2).f5)) ∧ w'.cell? ⟨(ad188.add ((x7_2).toNat * 13)).block, (ad188.add ((x7_2).toNat * 13)).off + 8, none⟩ = some (.int .i64 ((rd_T35 l0 x7_2).f6.f0)) ∧ w'.cell? ⟨(ad188.add ((x7_2).toNat * 13)).block, (ad188.add ((x7_2).toNat * 13)).off + 9, none⟩ = some (.int .i64 ((rd_T35 l0 x7_2).f6.f1)) ∧ w'.cell? ⟨(ad188.add ((x7_2).toNat * 13)).block, (ad188.add ((x7_2).toNat * 13)).off + 10, none⟩ = some (.int .i64 ((rd_T35 l0 x7_2).f6.f2)) ∧ w'.cell? ⟨(ad188.add ((x7_2).toNat * 13)).block, (ad188.add ((x7_2).toNat * 13)).off + 11, none⟩ = some (.int .i64 ((rd_T35 l0 x7_2).f6.f3)) ∧ w'.cell? ⟨(ad188.add ((x7_2).toNat * 13)).block, (ad188.add ((x7_2).toNat * 13)).off + 12, none⟩ = some (.int .i64 ((rd_T35 l0 x7_2).f7))) (ds := [10]) #[false, false, false, false, false, false, false, false, false, false, false] (by kernel_rfl) rfl rfl ⟨(blk_cell BK195.out 0).trans rfl, (blk_cell BK195.out 1).trans rfl, (blk_cell BK195.out 2).trans rfl, (blk_cell BK195.out 3).trans rfl, ((HB.out.cell (World.block_lt_of_cell? w _ hw196_0)).trans hw196_0), ((HB.out.cell (World.block_lt_of_cell? w _ hw196_1)).trans hw196_1), ((HB.out.cell (World.block_lt_of_cell? w _ hw196_2)).trans hw196_2), ((HB.out.cell (World.block_lt_of_cell? w _ hw196_3)).trans hw196_3), ((HB.out.cell (World.block_lt_of_cell? w _ hw196_4)).trans hw196_4), ((HB.out.cell (World.block_lt_of_cell? w _ hw196_5)).trans hw196_5), ((HB.out.cell (World.block_lt_of_cell? w _ hw196_6)).trans hw196_6), ((HB.out.cell (World.block_lt_of_cell? w _ hw196_7)).trans hw196_7), ((HB.out.cell (World.block_lt_of_cell? w _ hw196_8)).trans hw196_8), ((HB.out.cell (World.block_lt_of_cell? w _ hw196_9)).trans hw196_9), ((HB.out.cell (World.block_lt_of_cell? w _ hw196_10)).trans hw196_10), ((HB.out.cell (World.block_lt_of_cell? w _ hw196_11)).trans hw196_11), ((HB.out.cell (World.block_lt_of_cell? w _ hw196_12)).trans hw196_12)⟩ (fun hHeld => ?_); refine with_tabW colour_Mark.tab14 colour_Mark.bits14 (fun HT_ HW_ => ?_)
                     generalize w47.drew = w48 at HO_3 HO_4 HO_15 BK195 HB GG41 HQ49 hf41_0 hf41_1 hf41_10 hf41_11 hf41_12 hf41_2 hf41_3 hf41_4 hf41_5 hf41_6 hf41_7 hf41_8 hf41_9 hx196_0 hx196_1 hx196_10 hx196_11 hx196_12 hx196_2 hx196_3 hx196_4 hx196_5 hx196_6 hx196_7 hx196_8 hx196_9 hx41_0 hx41_1 hx41_10 hx41_11 hx41_12 hx41_2 hx41_3 hx41_4 hx41_5 hx41_6 hx41_7 hx41_8 hx41_9 hHeld ⊢
                     refine pure_ (i := 0) (N := some 73) (v := ?_) (a' := ?_) #[true, false, false, false, false, false, false, false, false, false, false] rfl rfl (any_of HT_.out (by kernel_rfl)) (fun _ _ _ h => h) (Or.inl ⟨by rfl, ?_⟩) ?_ ?_
                     rotate_left
                     ·intro w'
                      go_simp
                      with_reducible rfl
                     rotate_left
                     ·simp only [Act.put, List.setIfInBounds_toArray, List.set_cons_zero, List.set_cons_succ, i64_w, i32_w]
                      rfl
                     refine pure_ (i := 1) (N := some 74) (v := ?_) (a' := ?_) #[true, true, false, false, false, false, false, false, false, false, false] rfl rfl (any_of HT_.out (by kernel_rfl)) (fun _ _ _ h => h) (Or.inl ⟨by rfl, ?_⟩) ?_ ?_
                     rotate_left
                     ·intro w'
                      go_simp
                      with_reducible rfl
                     rotate_left
                     ·simp only [Act.put, List.setIfInBounds_toArray, List.set_cons_zero, List.set_cons_succ, i64_w, i32_w]
                      rfl
                     refine pure_ (i := 3) (N := some 76) (v := ?_) (a' := ?_) #[true, true, false, true, false, false, false, false, false, false, false] rfl rfl (any_of HT_.out (by kernel_rfl)) (fun _ _ _ h => h) (Or.inl ⟨by rfl, ?_⟩) ?_ ?_
                     rotate_left
                     ·intro w'
                      go_simp
                      with_reducible rfl
                     rotate_left
                     ·simp only [Act.put, List.setIfInBounds_toArray, List.set_cons_zero, List.set_cons_succ, i64_w, i32_w]
                      rfl
                     refine pure_ (i := 4) (N := some 77) (v := ?_) (a' := ?_) #[true, true, false, true, true, false, false, false, false, false, false] rfl rfl (any_of HT_.out (by kernel_rfl)) (fun _ _ _ h => h) (Or.inl ⟨by rfl, ?_⟩) ?_ ?_
                     rotate_left
                     ·intro w'
                      go_simp
                      with_reducible rfl
                     rotate_left
                     ·simp only [Act.put, List.setIfInBounds_toArray, List.set_cons_zero, List.set_cons_succ, i64_w, i32_w]
                      rfl
                     refine pure_ (i := 5) (N := some 78) (v := ?_) (a' := ?_) #[true, true, false, true, true, true, false, false, false, false, false] rfl rfl (any_of HT_.out (by kernel_rfl)) (fun _ _ _ h => h) (Or.inl ⟨by rfl, ?_⟩) ?_ ?_
                     rotate_left
                     ·intro w'
                      go_simp
                      with_reducible rfl
                     rotate_left
                     ·simp only [Act.put, List.setIfInBounds_toArray, List.set_cons_zero, List.set_cons_succ, i64_w, i32_w]
                      rfl
                     refine pure_ (i := 6) (N := some 79) (v := ?_) (a' := ?_) #[true, true, false, true, true, true, true, false, false, false, false] rfl rfl (any_of HT_.out (by kernel_rfl)) (fun _ _ _ h => h) (Or.inl ⟨by rfl, ?_⟩) ?_ ?_
                     rotate_left
                     ·intro w'
                      go_simp
                      with_reducible rfl
                     rotate_left
                     ·simp only [Act.put, List.setIfInBounds_toArray, List.set_cons_zero, List.set_cons_succ, i64_w, i32_w]
                      rfl
                     refine take_ (i := 2) (N := some 75) (v := ?_) (a' := ?_) #[true, true, true, true, true, true, true, false, false, false, false] rfl rfl (take_ofW HT_.out HW_.out (by kernel_rfl)) (fun _ _ _ h => h) (Or.inl ⟨by rfl, ?_⟩) hHeld ?_ ?_
                     rotate_left
                     ·rintro w' ⟨s0, s1, s2, s3, s4, s5, s6, s7, s8, s9, s10, s11, s12, s13, s14, s15, s16⟩
                      go_simp
                      with_reducible rfl
                     rotate_left
                     ·simp only [Act.put, List.setIfInBounds_toArray, List.set_cons_zero, List.set_cons_succ, i64_w, i32_w]
                      rfl
                     refine take_ (i := 7) (N := some 80) (v := ?_) (a' := ?_) #[true, true, true, true, true, true, true, true, false, false, false] rfl rfl (take_ofW HT_.out HW_.out (by kernel_rfl)) (fun _ _ _ h => h) (Or.inl ⟨by rfl, ?_⟩) hHeld ?_ ?_
                     rotate_left
                     ·rintro w' ⟨s0, s1, s2, s3, s4, s5, s6, s7, s8, s9, s10, s11, s12, s13, s14, s15, s16⟩
                      go_simp
                      with_reducible rfl
                     rotate_left
                     ·simp only [Act.put, List.setIfInBounds_toArray, List.set_cons_zero, List.set_cons_succ, i64_w, i32_w]
                      rfl
                     refine pure_ (i := 8) (N := some 81) (v := ?_) (a' := ?_) #[true, true, true, true, true, true, true, true, true, false, false] rfl rfl (any_of HT_.out (by kernel_rfl)) (fun _ _ _ h => h) (Or.inl ⟨by rfl, ?_⟩) ?_ ?_
                     rotate_left
                     ·intro w'
                      go_simp
                      with_reducible rfl
                     rotate_left
                     ·simp only [Act.put, List.setIfInBounds_toArray, List.set_cons_zero, List.set_cons_succ, i64_w, i32_w]
                      rfl
                     refine pure_ (i := 9) (N := some 82) (v := ?_) (a' := ?_) #[true, true, true, true, true, true, true, true, true, true, false] rfl rfl (any_of HT_.out (by kernel_rfl)) (fun _ _ _ h => h) (Or.inl ⟨by rfl, ?_⟩) ?_ ?_
                     rotate_left
                     ·intro w'
                      go_simp
                      with_reducible rfl
                     rotate_left
                     ·simp only [Act.put, List.setIfInBounds_toArray, List.set_cons_zero, List.set_cons_succ, i64_w, i32_w]
                      rfl
                     refine last_ (i := 10) (N := none) #[true, true, true, true, true, true, true, true, true, true, true] rfl rfl (one_of HT_.out (by kernel_rfl)) (by decide) (fun K hK => ?_)
                     refine skip_ (w1 := ?_) (by rfl) rfl ?_ ?_
                     rotate_left
                     ·go_simp
                      rfl
                     refine hK.out _ _ ?_
                     clear hK K
                     refine done_ (done_of HT_.out (by kernel_rfl)) ?_
                     try go_wp2
                     go_roundg kj16
                     case measure => have := HK1.out; have := HK2.out; have := HJ16.out; omega
                     case rel => exact ⟨(y197), (wrap64 (x7_2 + 1)), vqP, H', ⟨by have := HK1.out; have := HK2.out; have := HJ16.out; omega⟩, ⟨rwP HQ49.out⟩, ⟨by (with_reducible repeat (first | apply Kd.R_alloc | apply Kd.R_drewN | apply Kd.R_drew)); exact Kd.R_mono (Kd.R_far (p := ⟨go41, (x7_2 : Int).toNat * 13 + 12, none⟩) (Kd.R_far (p := ⟨go41, (x7_2 : Int).toNat * 13 + 11, none⟩) (Kd.R_far (p := ⟨go41, (x7_2 : Int).toNat * 13 + 10, none⟩) (Kd.R_far (p := ⟨go41, (x7_2 : Int).toNat * 13 + 9, none⟩) (Kd.R_far (p := ⟨go41, (x7_2 : Int).toNat * 13 + 8, none⟩) (Kd.R_far (p := ⟨go41, (x7_2 : Int).toNat * 13 + 7, none⟩) (Kd.R_far (p := ⟨go41, (x7_2 : Int).toNat * 13 + 6, none⟩) (Kd.R_far (p := ⟨go41, (x7_2 : Int).toNat * 13 + 5, none⟩) (Kd.R_far (p := ⟨go41, (x7_2 : Int).toNat * 13 + 4, none⟩) (Kd.R_far (p := ⟨go41, (x7_2 : Int).toNat * 13 + 3, none⟩) (Kd.R_far (p := ⟨go41, (x7_2 : Int).toNat * 13 + 2, none⟩) (Kd.R_far (p := ⟨go41, (x7_2 : Int).toNat * 13 + 1, none⟩) (Kd.R_far (p := ⟨go41, (x7_2 : Int).toNat * 13, none⟩) (Kd.R_types HO_4.out GG41.out (by decide)) (fun _ hk => hk.2) (.int .i64 26)) (fun _ hk => hk.2) (.string (⟨#[]⟩ : ByteArray))) (fun _ hk => hk.2) (.string (⟨#[]⟩ : ByteArray))) (fun _ hk => hk.2) (.bool false)) (fun _ hk => hk.2) (.string (⟨#[]⟩ : ByteArray))) (fun _ hk => hk.2) (.string (⟨#[]⟩ : ByteArray))) (fun _ hk => hk.2) (.bool false)) (fun _ hk => hk.2) (.bool false)) (fun _ hk => hk.2) (.int .i64 t190)) (fun _ hk => hk.2) (.int .i64 t191)) (fun _ hk => hk.2) (.int .i64 t192)) (fun _ hk => hk.2) (.int .i64 t193)) (fun _ hk => hk.2) (.int .i64 ((rd_T35 l0 x7_2).f7))) (fun _ hk => trivial)⟩, ⟨by (with_reducible repeat (first | apply Kd.R_alloc | apply Kd.R_drewN | apply Kd.R_drew)); exact Kd.R_mono (Kd.R_far (p := ⟨go41, (x7_2 : Int).toNat * 13 + 12, none⟩) (Kd.R_far (p := ⟨go41, (x7_2 : Int).toNat * 13 + 11, none⟩) (Kd.R_far (p := ⟨go41, (x7_2 : Int).toNat * 13 + 10, none⟩) (Kd.R_far (p := ⟨go41, (x7_2 : Int).toNat * 13 + 9, none⟩) (Kd.R_far (p := ⟨go41, (x7_2 : Int).toNat * 13 + 8, none⟩) (Kd.R_far (p := ⟨go41, (x7_2 : Int).toNat * 13 + 7, none⟩) (Kd.R_far (p := ⟨go41, (x7_2 : Int).toNat * 13 + 6, none⟩) (Kd.R_far (p := ⟨go41, (x7_2 : Int).toNat * 13 + 5, none⟩) (Kd.R_far (p := ⟨go41, (x7_2 : Int).toNat * 13 + 4, none⟩) (Kd.R_far (p := ⟨go41, (x7_2 : Int).toNat * 13 + 3, none⟩) (Kd.R_far (p := ⟨go41, (x7_2 : Int).toNat * 13 + 2, none⟩) (Kd.R_far (p := ⟨go41, (x7_2 : Int).toNat * 13 + 1, none⟩) (Kd.R_far (p := ⟨go41, (x7_2 : Int).toNat * 13, none⟩) (Kd.R_types HO_15.out GG41.out (by decide)) (fun _ hk => hk.2) (.int .i64 26)) (fun _ hk => hk.2) (.string (⟨#[]⟩ : ByteArray))) (fun _ hk => hk.2) (.string (⟨#[]⟩ : ByteArray))) (fun _ hk => hk.2) (.bool false)) (fun _ hk => hk.2) (.string (⟨#[]⟩ : ByteArray))) (fun _ hk => hk.2) (.string (⟨#[]⟩ : ByteArray))) (fun _ hk => hk.2) (.bool false)) (fun _ hk => hk.2) (.bool false)) (fun _ hk => hk.2) (.int .i64 t190)) (fun _ hk => hk.2) (.int .i64 t191)) (fun _ hk => hk.2) (.int .i64 t192)) (fun _ hk => hk.2) (.int .i64 t193)) (fun _ hk => hk.2) (.int .i64 ((rd_T35 l0 x7_2).f7))) (fun _ hk => trivial)⟩, ⟨by repeat (first | (with_reducible first | exact HB.out | apply below_alloc | apply pw_below_drewN | apply below_drew1 | refine below_set ?_ GB41.out | refine below_set ?_ GB41.out | refine below_set ?_ GB41.out | refine below_set ?_ GB41.out | refine below_set ?_ GB41.out | refine below_set ?_ GB41.out | refine below_set ?_ GB41.out | refine below_set ?_ GB41.out | refine below_set ?_ GB41.out | refine below_set ?_ GB41.out | refine below_set ?_ GB41.out | refine below_set ?_ GB41.out | refine below_set ?_ GB41.out | refine below_set ?_ GE195.out) | exact HB.out)⟩⟩
                    ·rw [if_neg c40] at H
                     exact absurd H (by simp)
                   ·replace c39 := Bool.eq_false_iff.mpr c39
                    subst c39
                    have H1 : (colour_Mark.l1 kj16 l0 x3_2 t175 (rd t178 x17_1) (wrap64 (x7_2 + 1)) t178 (t178.length : Int) x17_1) = some r := by rw [if_neg (show ¬ (false = true) by decide)] at H; exact H
                    clear H
                    have H := H1
                    clear H1
                    have H' := Aside0.mk H
                    clear H
                    try go_wp2
                    have n0_ := Aside0.mk (Kd.R_drew HO_3.out)
                    have n1_ := Aside0.mk (Kd.R_drew HO_4.out)
                    have n2_ := Aside0.mk (Kd.R_drew HO_15.out)
                    have n3_ := Aside0.mk (below_drew1 HB.out)
                    clear HO_3
                    clear HO_4
                    clear HO_15
                    clear HB
                    have HO_3 := n0_
                    have HO_4 := n1_
                    have HO_15 := n2_
                    have HB := n3_
                    clear n0_ n1_ n2_ n3_
                    obtain ⟨Ao51, co51, eo51⟩ := Kd.R_slice HO_4.out
                    (first | subst eo51 | (injection eo51 with f1_ f2_ f3_; have f4_ := f1_.symm; have f5_ := f3_.symm; clear f1_ f2_ f3_; subst f4_; subst f5_))
                    have p186 : 0 ≤ (x7_2 : Int) := of_decide_eq_true (by first | (with_reducible assumption) | assumption)
                    have q186 : x7_2 < (t175.length : Int) := of_decide_eq_true (by first | (with_reducible assumption) | assumption)
                    obtain ⟨ad186, e186, hx186_0, hx186_1, hx186_2⟩ := at_T46 (Kd.R_reads' HO_4.out).2.2 x7_2 p186 q186
                    cases e186
                    replace p186 := eq_true p186
                    replace q186 := eq_true q186
                    have p187 : 0 ≤ ((rd t178 x17_1) : Int) := of_decide_eq_true (by first | (with_reducible assumption) | assumption)
                    have q187 : (rd t178 x17_1) < (t175.length : Int) := of_decide_eq_true (by first | (with_reducible assumption) | assumption)
                    obtain ⟨ad187, e187, hx187_0, hx187_1, hx187_2⟩ := at_T46 (Kd.R_reads' HO_4.out).2.2 (rd t178 x17_1) p187 q187
                    obtain rfl : ad186 = ad187 := (by injection e187)
                    replace p187 := eq_true p187
                    replace q187 := eq_true q187
                    refine start_ (n := 11) (S := fun w' => w'.cell? (ad186.add ((x7_2).toNat * 3)) = some (.int .i64 ((rd_T46 t175 x7_2).f0)) ∧ w'.cell? ⟨(ad186.add ((x7_2).toNat * 3)).block, (ad186.add ((x7_2).toNat * 3)).off + 1, none⟩ = some (.bool ((rd_T46 t175 x7_2).f1)) ∧ w'.cell? ⟨(ad186.add ((x7_2).toNat * 3)).block, (ad186.add ((x7_2).toNat * 3)).off + 2, none⟩ = some (.bool ((rd_T46 t175 x7_2).f2)) ∧ w'.cell? (ad186.add (((rd t178 x17_1)).toNat * 3)) = some (.int .i64 ((rd_T46 t175 (rd t178 x17_1)).f0)) ∧ w'.cell? ⟨(ad186.add (((rd t178 x17_1)).toNat * 3)).block, (ad186.add (((rd t178 x17_1)).toNat * 3)).off + 1, none⟩ = some (.bool ((rd_T46 t175 (rd t178 x17_1)).f1)) ∧ w'.cell? ⟨(ad186.add (((rd t178 x17_1)).toNat * 3)).block, (ad186.add (((rd t178 x17_1)).toNat * 3)).off + 2, none⟩ = some (.bool ((rd_T46 t175 (rd t178 x17_1)).f2))) (ds := []) #[false, false, false, false, false, false, false, false, false, false, false] (by kernel_rfl) rfl rfl ⟨hx186_0, hx186_1, hx186_2, hx187_0, hx187_1, hx187_2⟩ (fun hHeld => ?_); refine with_tabW colour_Mark.tab10 colour_Mark.bits10 (fun HT_ HW_ => ?_)
                    generalize wc.drew = w50 at HO_3 HO_4 HO_15 HB hx186_0 hx186_1 hx186_2 hx187_0 hx187_1 hx187_2 hHeld ⊢
                    refine pure_ (i := 0) (N := some 47) (v := ?_) (a' := ?_) #[true, false, false, false, false, false, false, false, false, false, false] rfl rfl (any_of HT_.out (by kernel_rfl)) (fun _ _ _ h => h) (Or.inl ⟨by rfl, ?_⟩) ?_ ?_
                    rotate_left
                    ·intro w'
                     go_simp
                     with_reducible rfl
                    rotate_left
                    ·simp only [Act.put, List.setIfInBounds_toArray, List.set_cons_zero, List.set_cons_succ, i64_w, i32_w]
                     rfl
                    refine pure_ (i := 1) (N := some 48) (v := ?_) (a' := ?_) #[true, true, false, false, false, false, false, false, false, false, false] rfl rfl (any_of HT_.out (by kernel_rfl)) (fun _ _ _ h => h) (Or.inl ⟨by rfl, ?_⟩) ?_ ?_
                    rotate_left
                    ·intro w'
                     go_simp
                     with_reducible rfl
                    rotate_left
                    ·simp only [Act.put, List.setIfInBounds_toArray, List.set_cons_zero, List.set_cons_succ, i64_w, i32_w]
                     rfl
                    refine pure_ (i := 2) (N := some 49) (v := ?_) (a' := ?_) #[true, true, true, false, false, false, false, false, false, false, false] rfl rfl (any_of HT_.out (by kernel_rfl)) (fun _ _ _ h => h) (Or.inl ⟨by rfl, ?_⟩) ?_ ?_
                    rotate_left
                    ·intro w'
                     go_simp
                     with_reducible rfl
                    rotate_left
                    ·simp only [Act.put, List.setIfInBounds_toArray, List.set_cons_zero, List.set_cons_succ, i64_w, i32_w]
                     rfl
                    refine pure_ (i := 3) (N := some 50) (v := ?_) (a' := ?_) #[true, true, true, true, false, false, false, false, false, false, false] rfl rfl (any_of HT_.out (by kernel_rfl)) (fun _ _ _ h => h) (Or.inl ⟨by rfl, ?_⟩) ?_ ?_
                    rotate_left
                    ·intro w'
                     go_simp
                     with_reducible rfl
                    rotate_left
                    ·simp only [Act.put, List.setIfInBounds_toArray, List.set_cons_zero, List.set_cons_succ, i64_w, i32_w]
                     rfl
                    refine pure_ (i := 5) (N := some 52) (v := ?_) (a' := ?_) #[true, true, true, true, false, true, false, false, false, false, false] rfl rfl (any_of HT_.out (by kernel_rfl)) (fun _ _ _ h => h) (Or.inl ⟨by rfl, ?_⟩) ?_ ?_
                    rotate_left
                    ·intro w'
                     go_simp
                     with_reducible rfl
                    rotate_left
                    ·simp only [Act.put, List.setIfInBounds_toArray, List.set_cons_zero, List.set_cons_succ, i64_w, i32_w]
                     rfl
                    refine pure_ (i := 6) (N := some 53) (v := ?_) (a' := ?_) #[true, true, true, true, false, true, true, false, false, false, false] rfl rfl (any_of HT_.out (by kernel_rfl)) (fun _ _ _ h => h) (Or.inl ⟨by rfl, ?_⟩) ?_ ?_
                    rotate_left
                    ·intro w'
                     go_simp
                     with_reducible rfl
                    rotate_left
                    ·simp only [Act.put, List.setIfInBounds_toArray, List.set_cons_zero, List.set_cons_succ, i64_w, i32_w]
                     rfl
                    refine pure_ (i := 7) (N := some 54) (v := ?_) (a' := ?_) #[true, true, true, true, false, true, true, true, false, false, false] rfl rfl (any_of HT_.out (by kernel_rfl)) (fun _ _ _ h => h) (Or.inl ⟨by rfl, ?_⟩) ?_ ?_
                    rotate_left
                    ·intro w'
                     go_simp
                     with_reducible rfl
                    rotate_left
                    ·simp only [Act.put, List.setIfInBounds_toArray, List.set_cons_zero, List.set_cons_succ, i64_w, i32_w]
                     rfl
                    refine pure_ (i := 8) (N := some 55) (v := ?_) (a' := ?_) #[true, true, true, true, false, true, true, true, true, false, false] rfl rfl (any_of HT_.out (by kernel_rfl)) (fun _ _ _ h => h) (Or.inl ⟨by rfl, ?_⟩) ?_ ?_
                    rotate_left
                    ·intro w'
                     go_simp
                     with_reducible rfl
                    rotate_left
                    ·simp only [Act.put, List.setIfInBounds_toArray, List.set_cons_zero, List.set_cons_succ, i64_w, i32_w]
                     rfl
                    refine take_ (i := 4) (N := some 51) (v := ?_) (a' := ?_) #[true, true, true, true, true, true, true, true, true, false, false] rfl rfl (take_ofW HT_.out HW_.out (by kernel_rfl)) (fun _ _ _ h => h) (Or.inl ⟨by rfl, ?_⟩) hHeld ?_ ?_
                    rotate_left
                    ·rintro w' ⟨s0, s1, s2, s3, s4, s5⟩
                     go_simp
                     with_reducible rfl
                    rotate_left
                    ·simp only [Act.put, List.setIfInBounds_toArray, List.set_cons_zero, List.set_cons_succ, i64_w, i32_w]
                     rfl
                    refine take_ (i := 9) (N := some 56) (v := ?_) (a' := ?_) #[true, true, true, true, true, true, true, true, true, true, false] rfl rfl (take_ofW HT_.out HW_.out (by kernel_rfl)) (fun _ _ _ h => h) (Or.inl ⟨by rfl, ?_⟩) hHeld ?_ ?_
                    rotate_left
                    ·rintro w' ⟨s0, s1, s2, s3, s4, s5⟩
                     go_simp
                     with_reducible rfl
                    rotate_left
                    ·simp only [Act.put, List.setIfInBounds_toArray, List.set_cons_zero, List.set_cons_succ, i64_w, i32_w]
                     rfl
                    refine pure_ (i := 10) (N := some 57) (v := ?_) (a' := ?_) #[true, true, true, true, true, true, true, true, true, true, true] rfl rfl (any_of HT_.out (by kernel_rfl)) (fun _ _ _ h => h) (Or.inl ⟨by rfl, ?_⟩) ?_ ?_
                    rotate_left
                    ·intro w'
                     go_simp
                     with_reducible rfl
                    rotate_left
                    ·simp only [Act.put, List.setIfInBounds_toArray, List.set_cons_zero, List.set_cons_succ, i64_w, i32_w]
                     rfl
                    refine done_ (done_of HT_.out (by kernel_rfl)) ?_
                    have p188 : 0 ≤ (x7_2 : Int) := of_decide_eq_true (by first | (with_reducible assumption) | assumption)
                    have q188 : x7_2 < (l0.length : Int) := of_decide_eq_true (by first | (with_reducible assumption) | assumption)
                    obtain ⟨ad188, e188, hx188_0, hx188_1, hx188_2, hx188_3, hx188_4, hx188_5, hx188_6, hx188_7, hx188_8, hx188_9, hx188_10, hx188_11, hx188_12⟩ := at_T35 HR0.out x7_2 p188 q188
                    cases e188
                    replace hx188_0 := clB HB.out hx188_0
                    replace hx188_1 := clB HB.out hx188_1
                    replace hx188_2 := clB HB.out hx188_2
                    replace hx188_3 := clB HB.out hx188_3
                    replace hx188_4 := clB HB.out hx188_4
                    replace hx188_5 := clB HB.out hx188_5
                    replace hx188_6 := clB HB.out hx188_6
                    replace hx188_7 := clB HB.out hx188_7
                    replace hx188_8 := clB HB.out hx188_8
                    replace hx188_9 := clB HB.out hx188_9
                    replace hx188_10 := clB HB.out hx188_10
                    replace hx188_11 := clB HB.out hx188_11
                    replace hx188_12 := clB HB.out hx188_12
                    replace p188 := eq_true p188
                    replace q188 := eq_true q188
                    have p189 : 0 ≤ (x7_2 : Int) := of_decide_eq_true (by first | (with_reducible assumption) | assumption)
                    have q189 : x7_2 < (l0.length : Int) := of_decide_eq_true (by first | (with_reducible assumption) | assumption)
                    obtain ⟨ad189, e189, hx189_0, hx189_1, hx189_2, hx189_3, hx189_4, hx189_5, hx189_6, hx189_7, hx189_8, hx189_9, hx189_10, hx189_11, hx189_12⟩ := at_T35 HR0.out x7_2 p189 q189
                    obtain rfl : ad188 = ad189 := (by injection e189)
                    replace hx189_0 := clB HB.out hx189_0
                    replace hx189_1 := clB HB.out hx189_1
                    replace hx189_2 := clB HB.out hx189_2
                    replace hx189_3 := clB HB.out hx189_3
                    replace hx189_4 := clB HB.out hx189_4
                    replace hx189_5 := clB HB.out hx189_5
                    replace hx189_6 := clB HB.out hx189_6
                    replace hx189_7 := clB HB.out hx189_7
                    replace hx189_8 := clB HB.out hx189_8
                    replace hx189_9 := clB HB.out hx189_9
                    replace hx189_10 := clB HB.out hx189_10
                    replace hx189_11 := clB HB.out hx189_11
                    replace hx189_12 := clB HB.out hx189_12
                    replace p189 := eq_true p189
                    replace q189 := eq_true q189
                    try go_wp2_with (first | ((with_reducible refine gate_callee (f := 16) rfl ?_); refine goesL_ (some 69) rfl rfl Tryz.func16 (by kernel_rfl) rfl #[.agg #[.int .i64 ((rd_T35 l0 x7_2).f0), .string ((rd_T35 l0 x7_2).f1), .string ((rd_T35 l0 x7_2).f2), .bool ((rd_T35 l0 x7_2).f3.f0), .string ((rd_T35 l0 x7_2).f3.f1), .string ((rd_T35 l0 x7_2).f3.f2), .bool ((rd_T35 l0 x7_2).f4), .bool ((rd_T35 l0 x7_2).f5), .int .i64 ((rd_T35 l0 x7_2).f6.f0), .int .i64 ((rd_T35 l0 x7_2).f6.f1), .int .i64 ((rd_T35 l0 x7_2).f6.f2), .int .i64 ((rd_T35 l0 x7_2).f6.f3), .int .i64 ((rd_T35 l0 x7_2).f7)]] rfl agP ?_; (with_reducible refine (colour_Read.calls ((rd_T35 l0 x7_2).f0) ((rd_T35 l0 x7_2).f1) ((rd_T35 l0 x7_2).f2) ((rd_T35 l0 x7_2).f3.f0) ((rd_T35 l0 x7_2).f3.f1) ((rd_T35 l0 x7_2).f3.f2) ((rd_T35 l0 x7_2).f4) ((rd_T35 l0 x7_2).f5) ((rd_T35 l0 x7_2).f6.f0) ((rd_T35 l0 x7_2).f6.f1) ((rd_T35 l0 x7_2).f6.f2) ((rd_T35 l0 x7_2).f6.f3) ((rd_T35 l0 x7_2).f7) t190 t191 t192 t193 false _ ?side1 A38.out).mono ?_); (case side1 => first | exact hL | exact LaidW.below hL (hbP0 HB.out) | (repeat (first | exact hL | apply LaidW.drewN | apply LaidW.drew))); rintro e w52 ⟨rfl, hb⟩; refine ⟨_, rfl, ?_⟩; have n0_ := Aside0.mk (Kd.R_below (rwP HO_3.out) hb); have n1_ := Aside0.mk (Kd.R_below (rwP HO_4.out) hb); have n2_ := Aside0.mk (Kd.R_below (rwP HO_15.out) hb); have n3_ := Aside0.mk (below_step (hbP0 HB.out) hb); clear HO_3; clear HO_4; clear HO_15; clear HB; have HO_3 := n0_; have HO_4 := n1_; have HO_15 := n2_; have HB := n3_; clear n0_ n1_ n2_ n3_; (try clear hb); (try clear hb2); (try clear hk); (try clear hi)) | ((with_reducible refine gate_dst (N := 8) rfl ?_); refine box_event ?hg (N := 8) ?hd (cs := #[.int .i64 0, .int .i64 0, .int .i64 0, .int .i64 0]) (t := 33) ?hr ?_; (case hd => rfl); (case hg => rfl); (case hr => first | (go_simp; done) | (go_simp; rfl)); intro gb195 hg w53 hbox hb; have n0_ := Aside0.mk (Kd.R_below (rwP HO_3.out) hb); have n1_ := Aside0.mk (Kd.R_below (rwP HO_4.out) hb); have n2_ := Aside0.mk (Kd.R_below (rwP HO_15.out) hb); have n3_ := Aside0.mk (below_step (hbP0 HB.out) hb); have n4_ := Aside0.mk (hbox); have n5_ := Aside0.mk ((by rw [hg]; exact (below_size (hbP0 HB.out)) : w.heap.size ≤ gb195)); have n6_ := Aside0.mk ((by rw [hg]; exact (below_size (hbP0 HB.out)) : w.heap.size ≤ gb195)); clear HO_3; clear HO_4; clear HO_15; clear HB; have HO_3 := n0_; have HO_4 := n1_; have HO_15 := n2_; have HB := n3_; have BK195 := n4_; have GW195 := n5_; have GE195 := n6_; clear n0_ n1_ n2_ n3_ n4_ n5_ n6_; clear hb hbox hg; have hcz54_0 : w53.cell? ⟨gb195, 0, none⟩ = some (.int .i64 0) := (blk_cell BK195.out 0).trans rfl; have hcz54_1 : w53.cell? ⟨gb195, 1, none⟩ = some (.int .i64 0) := (blk_cell BK195.out 1).trans rfl; have hcz54_2 : w53.cell? ⟨gb195, 2, none⟩ = some (.int .i64 0) := (blk_cell BK195.out 2).trans rfl; have hcz54_3 : w53.cell? ⟨gb195, 3, none⟩ = some (.int .i64 0) := (blk_cell BK195.out 3).trans rfl; have hfz54_0 := blk_frozen BK195.out 0; have hfz54_1 := blk_frozen BK195.out 1; have hfz54_2 := blk_frozen BK195.out 2; have hfz54_3 := blk_frozen BK195.out 3))
                    go_roundg kj16
                    case measure => have := HK1.out; have := HK2.out; have := HJ16.out; omega
                    case rel => exact ⟨(x3_2), (wrap64 (x7_2 + 1)), vqP, H', ⟨by have := HK1.out; have := HK2.out; have := HJ16.out; omega⟩, ⟨by (with_reducible repeat (first | apply Kd.R_alloc | apply Kd.R_drewN | apply Kd.R_drew)); exact Kd.R_mono (Kd.R_far (p := ⟨gb195, 3, none⟩) (Kd.R_far (p := ⟨gb195, 2, none⟩) (Kd.R_far (p := ⟨gb195, 1, none⟩) (Kd.R_far (p := ⟨gb195, 0, none⟩) (Kd.R_types HO_3.out BK195.out (by decide)) (fun _ hk => hk.2) (.int .i64 t190)) (fun _ hk => hk.2) (.int .i64 t191)) (fun _ hk => hk.2) (.int .i64 t192)) (fun _ hk => hk.2) (.int .i64 t193)) (fun _ hk => trivial)⟩, ⟨by (with_reducible repeat (first | apply Kd.R_alloc | apply Kd.R_drewN | apply Kd.R_drew)); exact Kd.R_mono (Kd.R_far (p := ⟨gb195, 3, none⟩) (Kd.R_far (p := ⟨gb195, 2, none⟩) (Kd.R_far (p := ⟨gb195, 1, none⟩) (Kd.R_far (p := ⟨gb195, 0, none⟩) (Kd.R_types HO_4.out BK195.out (by decide)) (fun _ hk => hk.2) (.int .i64 t190)) (fun _ hk => hk.2) (.int .i64 t191)) (fun _ hk => hk.2) (.int .i64 t192)) (fun _ hk => hk.2) (.int .i64 t193)) (fun _ hk => trivial)⟩, ⟨by (with_reducible repeat (first | apply Kd.R_alloc | apply Kd.R_drewN | apply Kd.R_drew)); exact Kd.R_mono (Kd.R_far (p := ⟨gb195, 3, none⟩) (Kd.R_far (p := ⟨gb195, 2, none⟩) (Kd.R_far (p := ⟨gb195, 1, none⟩) (Kd.R_far (p := ⟨gb195, 0, none⟩) (Kd.R_types HO_15.out BK195.out (by decide)) (fun _ hk => hk.2) (.int .i64 t190)) (fun _ hk => hk.2) (.int .i64 t191)) (fun _ hk => hk.2) (.int .i64 t192)) (fun _ hk => hk.2) (.int .i64 t193)) (fun _ hk => trivial)⟩, ⟨hbP1 HB.out GE195.out⟩⟩
                 ·rw [if_neg c34] at H
                  exact absurd H (by simp)
               ·rw [if_neg c30] at H
                exact absurd H (by simp)
              ·rw [if_neg c29] at H
               exact absurd H (by simp)
             ·rw [if_neg c28] at H
              exact absurd H (by simp)
            ·rw [if_neg c27] at H
             exact absurd H (by simp)
           ·replace c26 := Bool.eq_false_iff.mpr c26
            subst c26
            have H1 : (colour_Mark.l0 kj16 l0 x3_2 t175 t178 (t178.length : Int) (wrap64 (x17_1 + 1))) = some r := by rw [if_neg (show ¬ (false = true) by decide)] at H; exact H
            clear H
            have H := H1
            clear H1
            have H' := Aside0.mk H
            clear H
            go_wp2
            go_roundg kj16
            case measure => have := HK1.out; have := HK2.out; have := HJ16.out; omega
            case rel => exact ⟨(x3_2), (wrap64 (x17_1 + 1)), vqP, H', ⟨by have := HK1.out; have := HK2.out; have := HJ16.out; omega⟩, ⟨rwP HO_3.out⟩, ⟨rwP HO_4.out⟩, ⟨rwP HO_15.out⟩, ⟨hbP0 HB.out⟩⟩
      ·replace c14 := Bool.eq_false_iff.mpr c14
       subst c14
       have H1 : (colour_Mark.l0 k1 l0 x3_1 t175 t178 (t178.length : Int) (wrap64 (x17_1 + 1))) = some r := by rw [if_neg (show ¬ (false = true) by decide)] at H; exact H
       clear H
       have H := H1
       clear H1
       have H' := Aside0.mk H
       clear H
       have p181 : 0 ≤ (x17_1 : Int) := of_decide_eq_true (by first | (with_reducible assumption) | assumption)
       have q181 : x17_1 < (t178.length : Int) := of_decide_eq_true (by first | (with_reducible assumption) | assumption)
       obtain ⟨ad181, e181, hx181_0⟩ := Kd.at_int (Kd.R_reads' HO_15.out).2.2 x17_1 p181 q181
       cases e181
       replace p181 := eq_true p181
       replace q181 := eq_true q181
       go_wp2_with (first | ((with_reducible refine gate_callee (f := 15) rfl ?_); refine goesL_ (some 23) rfl rfl Tryz.func15 (by kernel_rfl) rfl #[.slice A0 l0.length c0, .int .i64 (rd t178 x17_1)] rfl agP ?_; (with_reducible refine (colour_name.calls k1 _ _ l0 (rd t178 x17_1) t182 _ ?side1 ?side2 A12.out).mono ?_); (case side1 => repeat (first | exact (Kd.C_below HR0.out HB.out) | (with_reducible refine Kd.C_alloc ?_ _) | (with_reducible refine Kd.C_drewN ?_ _) | (with_reducible refine Kd.C_drew ?_))); (case side2 => exact HC0.out); rintro e w55 ⟨rfl, hb⟩; refine ⟨_, rfl, ?_⟩; have n0_ := Aside0.mk (Kd.R_below (rwP HO_3.out) hb); have n1_ := Aside0.mk (Kd.R_below (rwP HO_4.out) hb); have n2_ := Aside0.mk (Kd.R_below (rwP HO_15.out) hb); have n3_ := Aside0.mk (below_step (hbP0 HB.out) hb); clear HO_3; clear HO_4; clear HO_15; clear HB; have HO_3 := n0_; have HO_4 := n1_; have HO_15 := n2_; have HB := n3_; clear n0_ n1_ n2_ n3_; (try clear hb); (try clear hb2); (try clear hk); (try clear hi)) | ((with_reducible refine gate_callee (f := 14) rfl ?_); refine goesL_ (some 24) rfl rfl Tryz.func14 (by kernel_rfl) rfl #[.string t182] rfl agP ?_; (with_reducible refine (colour_coloured.calls k1 t182 false _ ?side1 A13.out).mono ?_); (case side1 => first | exact hL | exact LaidW.below hL (hbP0 HB.out) | (repeat (first | exact hL | apply LaidW.drewN | apply LaidW.drew))); rintro e w56 ⟨rfl, hb⟩; refine ⟨_, rfl, ?_⟩; have n0_ := Aside0.mk (Kd.R_below (rwP HO_3.out) hb); have n1_ := Aside0.mk (Kd.R_below (rwP HO_4.out) hb); have n2_ := Aside0.mk (Kd.R_below (rwP HO_15.out) hb); have n3_ := Aside0.mk (below_step (hbP0 HB.out) hb); clear HO_3; clear HO_4; clear HO_15; clear HB; have HO_3 := n0_; have HO_4 := n1_; have HO_15 := n2_; have HB := n3_; clear n0_ n1_ n2_ n3_; (try clear hb); (try clear hb2); (try clear hk); (try clear hi)))
       go_roundg k1
       case measure => have := HK1.out; omega
       case rel => exact ⟨(x3_1), (wrap64 (x17_1 + 1)), vqP, H', ⟨by have := HK1.out; omega⟩, ⟨rwP HO_3.out⟩, ⟨rwP HO_4.out⟩, ⟨rwP HO_15.out⟩, ⟨hbP0 HB.out⟩⟩
     ·rw [if_neg c11] at H
      exact absurd H (by simp)
    ·rw [if_neg c10] at H
     exact absurd H (by simp)
   ·rw [if_neg c9] at H
    have c9b0 : decide (x17_1 < (t178.length : Int)) = false := decide_eq_false c9
    clear c9
    obtain rfl := Option.some.inj H
    go_wp2
    go_ret
    exact ⟨_, by first | rfl | (simp [errW_none, errW_some] <;> rfl) | (simp [*, errW_none, errW_some] <;> rfl), by exact rwP HO_3.out, hbP0 HB.out⟩
end Go.Proofs.YthonpnaccjajcaaGreatDoor.P
