-- printed by xprint.py (a program of this session's, over the kit's print); Lean checks it
import Derived.Test.YthimiidnbnlemaaDoorNumberShiftPx0
import Derived.Test.YthimiidnbnlemaaDoorNumberShiftPx6
import Derived.Test.YthimiidnbnlemaaDoorNumberShiftPx9
namespace Go.Proofs.YthimiidnbnlemaaDoor.P
open Go.RowKit Go.Proofs.YthimiidnbnlemaaDoorW.PrintWords Go.Proofs.YthimiidnbnlemaaDoorW.PrintLast Go.Proofs.YthimiidnbnlemaaDoorW.PrintMore Go.Proofs.YthimiidnbnlemaaDoorX
attribute [local go_sem] max2_int min2_int max_two min_two max_three min_three max_four min_four   -- for this text's walks alone
set_option linter.unusedVariables false
set_option linter.unusedSimpArgs false
mutual
def number_plain.j2 : Nat → ByteArray → ByteArray → List ByteArray → Int → Option (List ByteArray)
 | 0, _, _, _, _ => none
 | k + 1, x0, x1, x5, x6 => if x0.size + 1 ≤ 9223372036854775807 then (if (x0 ++ (⟨#[101]⟩ : ByteArray)).size + x1.size ≤ 9223372036854775807 then (if x5.length < 8796093022208 then ((some (x5 ++ [(x0 ++ (⟨#[101]⟩ : ByteArray)) ++ x1] : List ByteArray)).bind fun y199 => (if x6 > 1 then ((strconv_Itoa.f (wrap64 (x6 - 1))).bind fun t202 => ((decimal_Add.f k x1 t202).bind fun bt203 => (if bt203.1.toList = ([48] : List UInt8) then (some y199) else (if 0 ≤ 1 then (if 1 ≤ (x0.size : Int) then (if (x0.extract 0 1).size + 1 ≤ 9223372036854775807 then (if ((x0.extract 0 1) ++ (⟨#[46]⟩ : ByteArray)).size + (x0.extract 1 x0.size).size ≤ 9223372036854775807 then (if (((x0.extract 0 1) ++ (⟨#[46]⟩ : ByteArray)) ++ (x0.extract 1 x0.size)).size + 1 ≤ 9223372036854775807 then (if ((((x0.extract 0 1) ++ (⟨#[46]⟩ : ByteArray)) ++ (x0.extract 1 x0.size)) ++ (⟨#[101]⟩ : ByteArray)).size + bt203.1.size ≤ 9223372036854775807 then (if y199.length < 8796093022208 then (some (y199 ++ [((((x0.extract 0 1) ++ (⟨#[46]⟩ : ByteArray)) ++ (x0.extract 1 x0.size)) ++ (⟨#[101]⟩ : ByteArray)) ++ bt203.1])) else (none)) else (none)) else (none)) else (none)) else (none)) else (none)) else (none))))) else (some y199))) else (none)) else (none)) else (none)
def number_plain.j0 : Nat → ByteArray → ByteArray → List ByteArray → Int → Int → Bool → Option (List ByteArray)
 | 0, _, _, _, _, _, _ => none
 | k + 1, x0, x1, x5, x6, x7, x19 => if x19 = true then ((number_zeros.f x7).bind fun t188 => (if x0.size + t188.size ≤ 9223372036854775807 then (if x5.length < 8796093022208 then (number_plain.j2 k x0 x1 (x5 ++ [x0 ++ t188]) x6) else (none)) else (none))) else (if x7 < 0 then (number_plain.j1 k x0 x1 x5 x6 x7 (decide (x7 > (wrap64 (-x6))))) else (number_plain.j1 k x0 x1 x5 x6 x7 false))
def number_plain.j1 : Nat → ByteArray → ByteArray → List ByteArray → Int → Int → Bool → Option (List ByteArray)
 | 0, _, _, _, _, _, _ => none
 | k + 1, x0, x1, x5, x6, x7, x33 => if x33 = true then (if 0 ≤ (wrap64 (x6 + x7)) then (if (wrap64 (x6 + x7)) ≤ (x0.size : Int) then (if (x0.extract 0 ((wrap64 (x6 + x7)) : Int).toNat).size + 1 ≤ 9223372036854775807 then (if ((x0.extract 0 ((wrap64 (x6 + x7)) : Int).toNat) ++ (⟨#[46]⟩ : ByteArray)).size + (x0.extract ((wrap64 (x6 + x7)) : Int).toNat x0.size).size ≤ 9223372036854775807 then (if x5.length < 8796093022208 then (number_plain.j2 k x0 x1 (x5 ++ [((x0.extract 0 ((wrap64 (x6 + x7)) : Int).toNat) ++ (⟨#[46]⟩ : ByteArray)) ++ (x0.extract ((wrap64 (x6 + x7)) : Int).toNat x0.size)]) x6) else (none)) else (none)) else (none)) else (none)) else (none)) else (if x7 ≤ (wrap64 (-x6)) then (if x7 ≥ (wrap64 ((wrap64 (-x6)) - 20)) then ((number_zeros.f (wrap64 ((wrap64 (-x7)) - x6))).bind fun t195 => (if 2 + t195.size ≤ 9223372036854775807 then (if ((⟨#[48, 46]⟩ : ByteArray) ++ t195).size + x0.size ≤ 9223372036854775807 then (if x5.length < 8796093022208 then (number_plain.j2 k x0 x1 (x5 ++ [((⟨#[48, 46]⟩ : ByteArray) ++ t195) ++ x0]) x6) else (none)) else (none)) else (none))) else (number_plain.j2 k x0 x1 x5 x6)) else (number_plain.j2 k x0 x1 x5 x6))
end
def number_plain.f (k : Nat) (a0 : ByteArray) (a1 : ByteArray) : Option (List ByteArray) := (decimal_Int.f a1).bind fun bt186 => (if bt186.2 = true then (if bt186.1 ≥ 0 then (number_plain.j0 k a0 a1 ([] : List ByteArray) (a0.size : Int) bt186.1 (decide (bt186.1 ≤ 20))) else (number_plain.j0 k a0 a1 ([] : List ByteArray) (a0.size : Int) bt186.1 false)) else (number_plain.j2 k a0 a1 ([] : List ByteArray) (a0.size : Int)))
def number_plain.T8 : Bool × List (List Nat × List Nat) := (true, [([], []), ([], []), ([], []), ([], []), ([2, 3], [2, 3]), ([1, 4], [1, 4]), ([5], [5]), ([], []), ([], []), ([], []), ([8, 9], [8, 9]), ([7, 10], [7, 10]), ([6, 11], [6, 11]), ([12], [12]), ([0, 13], [0, 13]), ([14, 14, 0, 1, 2, 3, 4, 5, 6, 7, 8, 9, 10, 11, 12, 13, 14], [0, 14])])
def number_plain.B8 : List Nat := [0, 0, 0, 0, 12, 30, 62, 0, 0, 0, 768, 1920, 4094, 8190, 16383, 32767]
theorem number_plain.tab8 : rtab .any (opsOf Tryd.f50 8) = number_plain.T8 := by kernel_rfl
theorem number_plain.bits8 : waitsOk number_plain.T8.2 number_plain.B8 = true := by kernel_rfl
def number_plain.T15 : Bool × List (List Nat × List Nat) := (true, [([], []), ([], []), ([1], [1]), ([2], [2]), ([], []), ([4], [4]), ([3, 5], [3, 5]), ([6], [6]), ([], []), ([7, 8], [7, 8]), ([9], [9]), ([0, 10], [0, 10]), ([11, 11, 0, 1, 2, 3, 4, 5, 6, 7, 8, 9, 10, 11], [0, 11])])
def number_plain.B15 : List Nat := [0, 0, 2, 6, 0, 16, 62, 126, 0, 510, 1022, 2047, 4095]
theorem number_plain.tab15 : rtab .any (opsOf Tryd.f50 15) = number_plain.T15 := by kernel_rfl
theorem number_plain.bits15 : waitsOk number_plain.T15.2 number_plain.B15 = true := by kernel_rfl
set_option maxHeartbeats 8000000 in
set_option maxRecDepth 100000 in
theorem number_plain.calls (k : Nat) (a0 : ByteArray) (a1 : ByteArray) (r : List ByteArray) (w : World) (hL : LaidW w) (h : number_plain.f k a0 a1 = some r) :
  Calls Tryd.prog 50 #[.string a0, .string a1] w fun e w' => ∃ v0_ : Value, e = .returned (v0_) ∧ Kd.R Kd.string 9 w' w.heap.size (fun _ => True) v0_ r ∧ Below w.heap.size w w' := by
 have HB := Aside0.mk (Below.refl w.heap.size w)
 have H : ((decimal_Int.f a1).bind fun bt186 => (if bt186.2 = true then (if bt186.1 ≥ 0 then (number_plain.j0 k a0 a1 ([] : List ByteArray) (a0.size : Int) bt186.1 (decide (bt186.1 ≤ 20))) else (number_plain.j0 k a0 a1 ([] : List ByteArray) (a0.size : Int) bt186.1 false)) else (number_plain.j2 k a0 a1 ([] : List ByteArray) (a0.size : Int)))) = some r := h
 clear h
 replace H := Option.bind_eq_some_iff.mp H
 obtain ⟨⟨t186, t187⟩, A30, H⟩ := H
 replace H : (if t187 = true then (if t186 ≥ 0 then (number_plain.j0 k a0 a1 ([] : List ByteArray) (a0.size : Int) t186 (decide (t186 ≤ 20))) else (number_plain.j0 k a0 a1 ([] : List ByteArray) (a0.size : Int) t186 false)) else (number_plain.j2 k a0 a1 ([] : List ByteArray) (a0.size : Int))) = some r := H
 have A3 := Aside0.mk A30
 clear A30
 have HC4 := Aside0.mk H
 clear H
 go_enter Tryd.func50, Tryd.ntmps50
 go_upto_if 18 with (first | ((with_reducible refine gate_callee (f := 15) rfl ?_); refine goesL_ (some 15) rfl rfl Tryd.func15 (by kernel_rfl) rfl #[.string a1] rfl (by (try simp only [List.map_toArray, List.map_cons, List.map_nil]); first | done | rfl | (simp only [List.length_drop, List.length_take]; rfl)) ?_; (with_reducible refine (decimal_Int.calls a1 t186 t187 _ ?side1 A3.out).mono ?_); (case side1 => first | exact hL | exact LaidW.below hL (by repeat (first | (with_reducible first | exact HB.out | apply below_alloc | apply pw_below_drewN | apply below_drew1) | exact HB.out)) | (repeat (first | exact hL | apply LaidW.drewN | apply LaidW.drew))); rintro e w5 ⟨rfl, hb⟩; refine ⟨_, rfl, ?_⟩; have n0_ := Aside0.mk (below_step (by repeat (first | (with_reducible first | exact HB.out | apply below_alloc | apply pw_below_drewN | apply below_drew1) | exact HB.out)) hb); clear HB; have HB := n0_; clear n0_; (try clear hb); (try clear hb2); (try clear hk); (try clear hi)))
 (try simp only [Act.put, List.setIfInBounds_toArray, List.set_cons_zero, List.set_cons_succ])
 go_cut [5] (fun v5 wc => ∃ (kq : Nat) (x5_3 : List ByteArray), Aside0 (number_plain.j2 kq a0 a1 x5_3 (a0.size : Int) = some r) ∧ Aside0 (kq ≤ k) ∧ Aside0 (Kd.R Kd.string 9 wc w.heap.size (fun _ => True) v5 x5_3) ∧ Aside0 (Below w.heap.size w wc))
 case first =>
  have H := HC4.out
  clear HC4
  by_cases c6 : t187 = true
  ·subst c6
   have H1 : (if t186 ≥ 0 then (number_plain.j0 k a0 a1 ([] : List ByteArray) (a0.size : Int) t186 (decide (t186 ≤ 20))) else (number_plain.j0 k a0 a1 ([] : List ByteArray) (a0.size : Int) t186 false)) = some r := by rw [if_pos rfl] at H; exact H
   clear H
   have H := H1
   clear H1
   have HC7 := Aside0.mk H
   clear H
   go_upto_region 5 with (fail)
   go_cut [19] (fun v19 wc => ∃ (kq : Nat) (x19_6 : Bool), v19 = .bool x19_6 ∧ Aside0 (number_plain.j0 kq a0 a1 ([] : List ByteArray) (a0.size : Int) t186 x19_6 = some r) ∧ Aside0 (kq ≤ k) ∧ Aside0 (Kd.R Kd.string 9 wc w.heap.size (fun _ => True) (.slice none 0 0) ([] : List ByteArray)) ∧ Aside0 (Below w.heap.size w wc))
   case first =>
    have H := HC7.out
    clear HC7
    by_cases c8 : t186 ≥ 0
    ·rw [if_pos c8] at H
     have c8b0 : decide (0 ≤ t186) = true := decide_eq_true c8
     clear c8
     (first | rw [c8b0] | (simp only [i64_w, i32_w]; rw [c8b0]) | skip)
     have H' := Aside0.mk H
     clear H
     go_wp2
     go_meet
     case rel => exact ⟨_, (decide (t186 ≤ 20)), (by first | rfl | (simp; done) | (simp [bne_nil_]; done) | (simp [*]; done) | (simp [wrap64]; done) | (refine congrArg (Value.int .i64) ?_; unfold wrap64; omega)), H', ⟨by first | omega | exact Nat.le_refl _⟩, ⟨by first | exact Kd.R_nil _ _ _ _ _ | exact Kd.N_nil _ _ _ _ _ | exact Kd.V_nil _ _ _ _ _ | exact Kd.Q_nil _ _ _ _ _ | exact Kd.S_nil _ _ _ _ _⟩, ⟨by repeat (first | (with_reducible first | exact HB.out | apply below_alloc | apply pw_below_drewN | apply below_drew1) | exact HB.out)⟩⟩
    ·rw [if_neg c8] at H
     have c8b0 : decide (0 ≤ t186) = false := decide_eq_false c8
     clear c8
     (first | rw [c8b0] | (simp only [i64_w, i32_w]; rw [c8b0]) | skip)
     have H' := Aside0.mk H
     clear H
     go_wp2
     go_meet
     case rel => exact ⟨_, (false), (by first | rfl | (simp; done) | (simp [bne_nil_]; done) | (simp [*]; done) | (simp [wrap64]; done) | (refine congrArg (Value.int .i64) ?_; unfold wrap64; omega)), H', ⟨by first | omega | exact Nat.le_refl _⟩, ⟨by first | exact Kd.R_nil _ _ _ _ _ | exact Kd.N_nil _ _ _ _ _ | exact Kd.V_nil _ _ _ _ _ | exact Kd.Q_nil _ _ _ _ _ | exact Kd.S_nil _ _ _ _ _⟩, ⟨by repeat (first | (with_reducible first | exact HB.out | apply below_alloc | apply pw_below_drewN | apply below_drew1) | exact HB.out)⟩⟩
   case rest =>
    clear HC7
    try clear c1
    try clear p2
    try clear c5
    try clear c6
    try clear p6
    try clear c8
    try clear c8b0
    obtain ⟨kq, x19_6, rfl, HA, HJ6, HO_5, HB⟩ := hcut
    cases kq with
    | zero => exact absurd HA.out (by simp [number_plain.j0])
    | succ kj6 =>
     have H := HA.out
     clear HA
     simp only [number_plain.j0] at H
     by_cases c9 : x19_6 = true
     ·subst c9
      have H1 : ((number_zeros.f t186).bind fun t188 => (if a0.size + t188.size ≤ 9223372036854775807 then (if ([] : List ByteArray).length < 8796093022208 then (number_plain.j2 kj6 a0 a1 (([] : List ByteArray) ++ [a0 ++ t188]) (a0.size : Int)) else (none)) else (none))) = some r := by rw [if_pos rfl] at H; exact H
      clear H
      have H := H1
      clear H1
      replace H := Option.bind_eq_some_iff.mp H
      obtain ⟨t188, A100, H⟩ := H
      replace H : (if a0.size + t188.size ≤ 9223372036854775807 then (if ([] : List ByteArray).length < 8796093022208 then (number_plain.j2 kj6 a0 a1 (([] : List ByteArray) ++ [a0 ++ t188]) (a0.size : Int)) else (none)) else (none)) = some r := H
      have A10 := Aside0.mk A100
      clear A100
      by_cases c11 : a0.size + t188.size ≤ 9223372036854775807
      ·rw [if_pos c11] at H
       have c11b0 := eq_true c11
       have c11b1 : decide (a0.size + t188.size ≤ 9223372036854775807) = true := decide_eq_true c11
       try have c11b2 : (9223372036854775807 < a0.size + t188.size) = False := eq_false (Nat.not_lt.2 c11)
       clear c11
       by_cases c12 : ([] : List ByteArray).length < 8796093022208
       ·rw [if_pos c12] at H
        have LMc12 := Aside0.mk c12
        clear c12
        obtain ⟨y189, hy189⟩ : ∃ y_ : List ByteArray, y_ = (([] : List ByteArray) ++ [a0 ++ t188]) := ⟨_, rfl⟩
        replace H : (number_plain.j2 kj6 a0 a1 y189 (a0.size : Int)) = some r := by first | (rw [hy189]; with_reducible exact H) | (have H2_ := (Option.bind_some _ _).symm.trans H; rw [hy189]; with_reducible exact H2_) | (have H2_ := (Option.bind_some _ _).symm.trans H; with_reducible exact H2_) | with_reducible exact H | (rw [hy189]; exact H) | exact H
        have Ny189 := Aside0.mk hy189
        clear hy189
        have H' := Aside0.mk H
        clear H
        go_wp2_with (first | ((with_reducible refine gate_callee (f := 68) rfl ?_); refine goesL_ (some 29) rfl rfl Tryd.func68 (by kernel_rfl) rfl #[.int .i64 t186] rfl (by (try simp only [List.map_toArray, List.map_cons, List.map_nil]); first | done | rfl | (simp only [List.length_drop, List.length_take]; rfl)) ?_; (with_reducible refine (number_zeros.calls t186 t188 _ A10.out).mono ?_); rintro e w13 ⟨rfl, hb⟩; refine ⟨_, rfl, ?_⟩; have n0_ := Aside0.mk (Kd.R_below (by (with_reducible repeat (first | apply Kd.R_alloc | apply Kd.R_drewN | apply Kd.R_drew)); exact HO_5.out) hb); have n1_ := Aside0.mk (below_step (by repeat (first | (with_reducible first | exact HB.out | apply below_alloc | apply pw_below_drewN | apply below_drew1) | exact HB.out)) hb); clear HO_5; clear HB; have HO_5 := n0_; have HB := n1_; clear n0_ n1_; (try clear hb); (try clear hb2); (try clear hk); (try clear hi)) | ((with_reducible refine gate_builtin (b := .append) (xs := #[.tmp 26, .tmp 31]) rfl ?_); at_builtin; refine Kd.R_append Kd.string (w0 := w) w.heap.size rfl (.tmp 26) (.tmp 31) 38 9 (.string ⟨#[]⟩) 16 rfl Tryd.underlying38 info9 rfl (by decide) (by omega) (.slice none 0 0) ([] : List ByteArray) (a0 ++ t188) [.string (a0 ++ t188)] (fun _ => True) (fun _ => False) rfl rfl ?aP (fun _ hk => hk.elim) ?aF ?aO ?aB ?aS ?aL ?_; (case aP => exact rfl); (case aB => exact (by repeat (first | (with_reducible first | exact HB.out | apply below_alloc | apply pw_below_drewN | apply below_drew1) | exact HB.out))); (case aF => exact (fun _ _ => trivial)); (case aO => exact (by (with_reducible repeat (first | apply Kd.R_alloc | apply Kd.R_drewN | apply Kd.R_drew)); exact HO_5.out)); (case aS => exact (below_size (by repeat (first | (with_reducible first | exact HB.out | apply below_alloc | apply pw_below_drewN | apply below_drew1) | exact HB.out)))); (case aL => have := LMc12.out; omega); intro v190 w14 ho hb hg hat; rw [← Ny189.out] at ho; have n0_ := Aside0.mk (hb); have n1_ := Aside0.mk (ho); clear HB; clear HO_5; have HB := n0_; have HO191 := n1_; clear n0_ n1_; clear ho hb hg hat))
        go_meet
        case rel => exact ⟨_, (y189), H', ⟨by have := HJ6.out; first | omega | exact Nat.le_refl _⟩, ⟨by (with_reducible repeat (first | apply Kd.R_alloc | apply Kd.R_drewN | apply Kd.R_drew)); exact HO191.out⟩, ⟨by repeat (first | (with_reducible first | exact HB.out | apply below_alloc | apply pw_below_drewN | apply below_drew1) | exact HB.out)⟩⟩
       ·rw [if_neg c12] at H
        exact absurd H (by simp)
      ·rw [if_neg c11] at H
       exact absurd H (by simp)
     ·replace c9 := Bool.eq_false_iff.mpr c9
      subst c9
      have H1 : (if t186 < 0 then (number_plain.j1 kj6 a0 a1 ([] : List ByteArray) (a0.size : Int) t186 (decide (t186 > (wrap64 (-(a0.size : Int)))))) else (number_plain.j1 kj6 a0 a1 ([] : List ByteArray) (a0.size : Int) t186 false)) = some r := by rw [if_neg (show ¬ (false = true) by decide)] at H; exact H
      clear H
      have H := H1
      clear H1
      have HC15 := Aside0.mk H
      clear H
      go_upto_region 7 with (fail)
      go_cut [33] (fun v33 wc => ∃ (kq : Nat) (x33_14 : Bool), v33 = .bool x33_14 ∧ Aside0 (number_plain.j1 kq a0 a1 ([] : List ByteArray) (a0.size : Int) t186 x33_14 = some r) ∧ Aside0 (kq ≤ kj6) ∧ Aside0 (Kd.R Kd.string 9 wc w.heap.size (fun _ => True) (.slice none 0 0) ([] : List ByteArray)) ∧ Aside0 (Below w.heap.size w wc))
      case first =>
       have H := HC15.out
       clear HC15
       by_cases c16 : t186 < 0
       ·rw [if_pos c16] at H
        have c16b0 : decide (t186 < 0) = true := decide_eq_true c16
        clear c16
        (first | rw [c16b0] | (simp only [i64_w, i32_w]; rw [c16b0]) | skip)
        have H' := Aside0.mk H
        clear H
        go_wp2
        go_meet
        case rel => exact ⟨_, (decide (t186 > (wrap64 (-(a0.size : Int))))), (by first | rfl | (simp; done) | (simp [bne_nil_]; done) | (simp [*]; done) | (simp [wrap64]; done) | (refine congrArg (Value.int .i64) ?_; unfold wrap64; omega)), H', ⟨by have := HJ6.out; first | omega | exact Nat.le_refl _⟩, ⟨by (with_reducible repeat (first | apply Kd.R_alloc | apply Kd.R_drewN | apply Kd.R_drew)); exact HO_5.out⟩, ⟨by repeat (first | (with_reducible first | exact HB.out | apply below_alloc | apply pw_below_drewN | apply below_drew1) | exact HB.out)⟩⟩
       ·rw [if_neg c16] at H
        have c16b0 : decide (t186 < 0) = false := decide_eq_false c16
        clear c16
        (first | rw [c16b0] | (simp only [i64_w, i32_w]; rw [c16b0]) | skip)
        have H' := Aside0.mk H
        clear H
        go_wp2
        go_meet
        case rel => exact ⟨_, (false), (by first | rfl | (simp; done) | (simp [bne_nil_]; done) | (simp [*]; done) | (simp [wrap64]; done) | (refine congrArg (Value.int .i64) ?_; unfold wrap64; omega)), H', ⟨by have := HJ6.out; first | omega | exact Nat.le_refl _⟩, ⟨by (with_reducible repeat (first | apply Kd.R_alloc | apply Kd.R_drewN | apply Kd.R_drew)); exact HO_5.out⟩, ⟨by repeat (first | (with_reducible first | exact HB.out | apply below_alloc | apply pw_below_drewN | apply below_drew1) | exact HB.out)⟩⟩
      case rest =>
       clear HC15
       try clear c1
       try clear p2
       try clear c5
       try clear c6
       try clear p6
       try clear c8
       try clear c8b0
       try clear c9
       try clear c11
       try clear c11b0
       try clear c11b1
       try clear c11b2
       try clear c12
       try clear c15
       try clear c16
       try clear c16b0
       try clear p2
       try clear p6
       obtain ⟨kq, x33_14, rfl, HA, HJ14, HO_5, HB⟩ := hcut
       cases kq with
       | zero => exact absurd HA.out (by simp [number_plain.j1])
       | succ kj14 =>
        have H := HA.out
        clear HA
        simp only [number_plain.j1] at H
        by_cases c17 : x33_14 = true
        ·subst c17
         have H1 : (if 0 ≤ (wrap64 ((a0.size : Int) + t186)) then (if (wrap64 ((a0.size : Int) + t186)) ≤ (a0.size : Int) then (if (a0.extract 0 ((wrap64 ((a0.size : Int) + t186)) : Int).toNat).size + 1 ≤ 9223372036854775807 then (if ((a0.extract 0 ((wrap64 ((a0.size : Int) + t186)) : Int).toNat) ++ (⟨#[46]⟩ : ByteArray)).size + (a0.extract ((wrap64 ((a0.size : Int) + t186)) : Int).toNat a0.size).size ≤ 9223372036854775807 then (if ([] : List ByteArray).length < 8796093022208 then (number_plain.j2 kj14 a0 a1 (([] : List ByteArray) ++ [((a0.extract 0 ((wrap64 ((a0.size : Int) + t186)) : Int).toNat) ++ (⟨#[46]⟩ : ByteArray)) ++ (a0.extract ((wrap64 ((a0.size : Int) + t186)) : Int).toNat a0.size)]) (a0.size : Int)) else (none)) else (none)) else (none)) else (none)) else (none)) = some r := by rw [if_pos rfl] at H; exact H
         clear H
         have H := H1
         clear H1
         obtain ⟨ji18, hji18⟩ : ∃ j_ : Int, (wrap64 ((a0.size : Int) + t186)) = j_ := ⟨_, rfl⟩
         replace H : (if 0 ≤ (ji18) then (if (ji18) ≤ (a0.size : Int) then (if (a0.extract 0 ((ji18) : Int).toNat).size + 1 ≤ 9223372036854775807 then (if ((a0.extract 0 ((ji18) : Int).toNat) ++ (⟨#[46]⟩ : ByteArray)).size + (a0.extract ((ji18) : Int).toNat a0.size).size ≤ 9223372036854775807 then (if ([] : List ByteArray).length < 8796093022208 then (number_plain.j2 kj14 a0 a1 (([] : List ByteArray) ++ [((a0.extract 0 ((ji18) : Int).toNat) ++ (⟨#[46]⟩ : ByteArray)) ++ (a0.extract ((ji18) : Int).toNat a0.size)]) (a0.size : Int)) else (none)) else (none)) else (none)) else (none)) else (none)) = some r := by first | (rw [hji18] at H; exact H) | (simp only [hji18] at H ⊢; exact H)
         have hji18w : (IntKind.i64.wrap ((a0.size : Int) + t186)) = ji18 := (i64_w _).trans hji18
         by_cases c19 : 0 ≤ (ji18)
         ·rw [if_pos c19] at H
          have c19b0 := eq_true c19
          have c19b1 : decide (0 ≤ (ji18)) = true := decide_eq_true c19
          clear c19
          by_cases c20 : (ji18) ≤ (a0.size : Int)
          ·rw [if_pos c20] at H
           have c20b0 := eq_true c20
           have c20b1 : decide ((ji18) ≤ (a0.size : Int)) = true := decide_eq_true c20
           clear c20
           by_cases c21 : (a0.extract 0 ((ji18) : Int).toNat).size + 1 ≤ 9223372036854775807
           ·rw [if_pos c21] at H
            have c21b0 := eq_true c21
            have c21b1 : decide ((a0.extract 0 ((ji18) : Int).toNat).size + 1 ≤ 9223372036854775807) = true := decide_eq_true c21
            try have c21b2 : (9223372036854775807 < (a0.extract 0 ((ji18) : Int).toNat).size + 1) = False := eq_false (Nat.not_lt.2 c21)
            (try (have c21b3 : (9223372036854775807 < ji18.toNat + 1) = False := eq_false (Nat.not_lt.2 (by have h_ := c21; (try simp only [ByteArray.size_append, ByteArray.size_extract] at h_); (try simp only [decide_eq_true_eq] at *); omega))))
            clear c21
            have c22b0 := eq_true (of_decide_eq_true (by first | (with_reducible assumption) | assumption) : 0 ≤ (ji18))
            have c23b0 := eq_true (of_decide_eq_true (by first | (with_reducible assumption) | assumption) : (ji18) ≤ (a0.size : Int))
            by_cases c24 : ((a0.extract 0 ((ji18) : Int).toNat) ++ (⟨#[46]⟩ : ByteArray)).size + (a0.extract ((ji18) : Int).toNat a0.size).size ≤ 9223372036854775807
            ·rw [if_pos c24] at H
             have c24b0 := eq_true c24
             have c24b1 : decide (((a0.extract 0 ((ji18) : Int).toNat) ++ (⟨#[46]⟩ : ByteArray)).size + (a0.extract ((ji18) : Int).toNat a0.size).size ≤ 9223372036854775807) = true := decide_eq_true c24
             try have c24b2 : (9223372036854775807 < ((a0.extract 0 ((ji18) : Int).toNat) ++ (⟨#[46]⟩ : ByteArray)).size + (a0.extract ((ji18) : Int).toNat a0.size).size) = False := eq_false (Nat.not_lt.2 c24)
             (try (have c24b3 : (9223372036854775807 < ji18.toNat + 1 + (a0.size - ji18.toNat)) = False := eq_false (Nat.not_lt.2 (by have h_ := c24; have e0_ : (⟨#[46]⟩ : ByteArray).size = 1 := rfl; (try simp only [ByteArray.size_append, ByteArray.size_extract, e0_] at h_); (try simp only [decide_eq_true_eq] at *); omega))))
             clear c24
             by_cases c25 : ([] : List ByteArray).length < 8796093022208
             ·rw [if_pos c25] at H
              have LMc25 := Aside0.mk c25
              clear c25
              obtain ⟨y192, hy192⟩ : ∃ y_ : List ByteArray, y_ = (([] : List ByteArray) ++ [((a0.extract 0 ((ji18) : Int).toNat) ++ (⟨#[46]⟩ : ByteArray)) ++ (a0.extract ((ji18) : Int).toNat a0.size)]) := ⟨_, rfl⟩
              replace H : (number_plain.j2 kj14 a0 a1 y192 (a0.size : Int)) = some r := by first | (rw [hy192]; with_reducible exact H) | (have H2_ := (Option.bind_some _ _).symm.trans H; rw [hy192]; with_reducible exact H2_) | (have H2_ := (Option.bind_some _ _).symm.trans H; with_reducible exact H2_) | with_reducible exact H | (rw [hy192]; exact H) | exact H
              have Ny192 := Aside0.mk hy192
              clear hy192
              have H' := Aside0.mk H
              clear H
              try go_wp2
              have n0_ := Aside0.mk (Kd.R_drew HO_5.out)
              have n1_ := Aside0.mk (below_drew1 HB.out)
              clear HO_5
              clear HB
              have HO_5 := n0_
              have HB := n1_
              clear n0_ n1_
              refine start_ (n := 16) (S := fun w' => True) (ds := []) #[false, false, false, false, false, false, false, false, false, false, false, false, false, false, false, false] (by kernel_rfl) rfl rfl trivial (fun hHeld => ?_); refine with_tabW number_plain.tab8 number_plain.bits8 (fun HT_ HW_ => ?_)
              generalize wc.drew = w26 at HO_5 HB hHeld ⊢
              refine pure_ (i := 0) (N := some 42) (v := ?_) (a' := ?_) #[true, false, false, false, false, false, false, false, false, false, false, false, false, false, false, false] rfl rfl (any_of HT_.out (by kernel_rfl)) (fun _ _ _ h => h) (Or.inl ⟨by rfl, ?_⟩) ?_ ?_
              rotate_left
              ·intro w'
               go_simp
               with_reducible rfl
              rotate_left
              ·simp only [Act.put, List.setIfInBounds_toArray, List.set_cons_zero, List.set_cons_succ, i64_w, i32_w]
               rfl
              refine pure_ (i := 1) (N := some 43) (v := ?_) (a' := ?_) #[true, true, false, false, false, false, false, false, false, false, false, false, false, false, false, false] rfl rfl (any_of HT_.out (by kernel_rfl)) (fun _ _ _ h => h) (Or.inl ⟨by rfl, ?_⟩) ?_ ?_
              rotate_left
              ·intro w'
               go_simp
               with_reducible rfl
              rotate_left
              ·simp only [Act.put, List.setIfInBounds_toArray, List.set_cons_zero, List.set_cons_succ, i64_w, i32_w]
               rfl
              refine pure_ (i := 2) (N := some 44) (v := ?_) (a' := ?_) #[true, true, true, false, false, false, false, false, false, false, false, false, false, false, false, false] rfl rfl (any_of HT_.out (by kernel_rfl)) (fun _ _ _ h => h) (Or.inl ⟨by rfl, ?_⟩) ?_ ?_
              rotate_left
              ·intro w'
               go_simp
               with_reducible rfl
              rotate_left
              ·simp only [Act.put, List.setIfInBounds_toArray, List.set_cons_zero, List.set_cons_succ, i64_w, i32_w]
               rfl
              refine pure_ (i := 3) (N := some 45) (v := ?_) (a' := ?_) #[true, true, true, true, false, false, false, false, false, false, false, false, false, false, false, false] rfl rfl (any_of HT_.out (by kernel_rfl)) (fun _ _ _ h => h) (Or.inl ⟨by rfl, ?_⟩) ?_ ?_
              rotate_left
              ·intro w'
               go_simp
               with_reducible rfl
              rotate_left
              ·simp only [Act.put, List.setIfInBounds_toArray, List.set_cons_zero, List.set_cons_succ, i64_w, i32_w]
               rfl
              refine pure_ (i := 4) (N := some 46) (v := ?_) (a' := ?_) #[true, true, true, true, true, false, false, false, false, false, false, false, false, false, false, false] rfl rfl (any_of HT_.out (by kernel_rfl)) (fun _ _ _ h => h) (Or.inl ⟨by rfl, ?_⟩) ?_ ?_
              rotate_left
              ·intro w'
               go_simp
               with_reducible rfl
              rotate_left
              ·simp only [Act.put, List.setIfInBounds_toArray, List.set_cons_zero, List.set_cons_succ, i64_w, i32_w]
               rfl
              refine pure_ (i := 5) (N := some 47) (v := ?_) (a' := ?_) #[true, true, true, true, true, true, false, false, false, false, false, false, false, false, false, false] rfl rfl (any_of HT_.out (by kernel_rfl)) (fun _ _ _ h => h) (Or.inl ⟨by rfl, ?_⟩) ?_ ?_
              rotate_left
              ·intro w'
               go_simp
               with_reducible rfl
              rotate_left
              ·simp only [Act.put, List.setIfInBounds_toArray, List.set_cons_zero, List.set_cons_succ, i64_w, i32_w]
               rfl
              refine pure_ (i := 6) (N := some 48) (v := ?_) (a' := ?_) #[true, true, true, true, true, true, true, false, false, false, false, false, false, false, false, false] rfl rfl (any_of HT_.out (by kernel_rfl)) (fun _ _ _ h => h) (Or.inl ⟨by rfl, ?_⟩) ?_ ?_
              rotate_left
              ·intro w'
               go_simp
               with_reducible rfl
              rotate_left
              ·simp only [Act.put, List.setIfInBounds_toArray, List.set_cons_zero, List.set_cons_succ, i64_w, i32_w]
               rfl
              refine pure_ (i := 7) (N := some 49) (v := ?_) (a' := ?_) #[true, true, true, true, true, true, true, true, false, false, false, false, false, false, false, false] rfl rfl (any_of HT_.out (by kernel_rfl)) (fun _ _ _ h => h) (Or.inl ⟨by rfl, ?_⟩) ?_ ?_
              rotate_left
              ·intro w'
               go_simp
               with_reducible rfl
              rotate_left
              ·simp only [Act.put, List.setIfInBounds_toArray, List.set_cons_zero, List.set_cons_succ, i64_w, i32_w]
               rfl
              refine pure_ (i := 8) (N := some 50) (v := ?_) (a' := ?_) #[true, true, true, true, true, true, true, true, true, false, false, false, false, false, false, false] rfl rfl (any_of HT_.out (by kernel_rfl)) (fun _ _ _ h => h) (Or.inl ⟨by rfl, ?_⟩) ?_ ?_
              rotate_left
              ·intro w'
               go_simp
               with_reducible rfl
              rotate_left
              ·simp only [Act.put, List.setIfInBounds_toArray, List.set_cons_zero, List.set_cons_succ, i64_w, i32_w]
               rfl
              refine pure_ (i := 9) (N := some 51) (v := ?_) (a' := ?_) #[true, true, true, true, true, true, true, true, true, true, false, false, false, false, false, false] rfl rfl (any_of HT_.out (by kernel_rfl)) (fun _ _ _ h => h) (Or.inl ⟨by rfl, ?_⟩) ?_ ?_
              rotate_left
              ·intro w'
               go_simp
               with_reducible rfl
              rotate_left
              ·simp only [Act.put, List.setIfInBounds_toArray, List.set_cons_zero, List.set_cons_succ, i64_w, i32_w]
               rfl
              refine pure_ (i := 10) (N := some 52) (v := ?_) (a' := ?_) #[true, true, true, true, true, true, true, true, true, true, true, false, false, false, false, false] rfl rfl (any_of HT_.out (by kernel_rfl)) (fun _ _ _ h => h) (Or.inl ⟨by rfl, ?_⟩) ?_ ?_
              rotate_left
              ·intro w'
               go_simp
               with_reducible rfl
              rotate_left
              ·simp only [Act.put, List.setIfInBounds_toArray, List.set_cons_zero, List.set_cons_succ, i64_w, i32_w]
               rfl
              refine pure_ (i := 11) (N := some 53) (v := ?_) (a' := ?_) #[true, true, true, true, true, true, true, true, true, true, true, true, false, false, false, false] rfl rfl (any_of HT_.out (by kernel_rfl)) (fun _ _ _ h => h) (Or.inl ⟨by rfl, ?_⟩) ?_ ?_
              rotate_left
              ·intro w'
               go_simp
               with_reducible rfl
              rotate_left
              ·simp only [Act.put, List.setIfInBounds_toArray, List.set_cons_zero, List.set_cons_succ, i64_w, i32_w]
               rfl
              refine pure_ (i := 12) (N := some 54) (v := ?_) (a' := ?_) #[true, true, true, true, true, true, true, true, true, true, true, true, true, false, false, false] rfl rfl (any_of HT_.out (by kernel_rfl)) (fun _ _ _ h => h) (Or.inl ⟨by rfl, ?_⟩) ?_ ?_
              rotate_left
              ·intro w'
               go_simp
               with_reducible rfl
              rotate_left
              ·simp only [Act.put, List.setIfInBounds_toArray, List.set_cons_zero, List.set_cons_succ, i64_w, i32_w]
               rfl
              refine one_ (i := 13) (N := some 55) #[true, true, true, true, true, true, true, true, true, true, true, true, true, true, false, false] rfl rfl (one_of HT_.out (by kernel_rfl)) (by decide) (fun K hK => ?_)
              refine value_ (w1 := ?_) (v := ?_) (by rfl) rfl ?_ ?_
              rotate_left 2
              ·go_simp
               constructor
               ·rfl
               ·rfl
              refine hK.out _ _ trivial (fun hHeld => ?_)
              clear hK K
              refine norm_ (a' := ?_) ?_ ?_
              rotate_left
              ·show Act.put _ (some 55) _ = _
               simp only [Act.put, List.setIfInBounds_toArray, List.set_cons_zero, List.set_cons_succ, i64_w, i32_w]
               rfl
              refine one_ (i := 14) (N := some 56) #[true, true, true, true, true, true, true, true, true, true, true, true, true, true, true, false] rfl rfl (one_of HT_.out (by kernel_rfl)) (by decide) (fun K hK => ?_)
              refine Kd.R_append_step Kd.string (w0 := w) w.heap.size (by rfl) (.tmp 42) (.tmp 55) 38 9 (.string ⟨#[]⟩) 16 rfl Tryd.underlying38 info9 rfl (by decide) (by omega) (.slice none 0 0) ([] : List ByteArray) (((a0.extract 0 ((ji18) : Int).toNat) ++ (⟨#[46]⟩ : ByteArray)) ++ (a0.extract ((ji18) : Int).toNat a0.size)) [.string (((a0.extract 0 ((ji18) : Int).toNat) ++ (⟨#[46]⟩ : ByteArray)) ++ (a0.extract ((ji18) : Int).toNat a0.size))] (fun _ => True) (fun _ => False) rfl rfl ?aP (fun _ hk => hk.elim) ?aF ?aO ?aB ?aS ?aL ?_
              (case aP => exact rfl)
              (case aB => exact (by repeat (first | (with_reducible first | exact HB.out | apply below_alloc | apply pw_below_drewN | apply below_drew1) | exact HB.out)))
              (case aF => exact (fun _ _ => trivial))
              (case aO => exact (by (with_reducible repeat (first | apply Kd.R_alloc | apply Kd.R_drewN | apply Kd.R_drew)); exact HO_5.out))
              (case aS => exact (below_size (by repeat (first | (with_reducible first | exact HB.out | apply below_alloc | apply pw_below_drewN | apply below_drew1) | exact HB.out))))
              (case aL => have := LMc25.out; omega)
              intro v193 w27 ho hb hg hat
              rw [← Ny192.out] at ho
              have n0_ := Aside0.mk (hb)
              have n1_ := Aside0.mk (ho)
              clear HB
              clear HO_5
              have HB := n0_
              have HO194 := n1_
              clear n0_ n1_
              clear ho hb hg hat
              refine hK.out _ _ trivial (fun hHeld => ?_)
              clear hK K
              refine norm_ (a' := ?_) ?_ ?_
              rotate_left
              ·show Act.put _ (some 56) _ = _
               simp only [Act.put, List.setIfInBounds_toArray, List.set_cons_zero, List.set_cons_succ, i64_w, i32_w]
               rfl
              refine pure_ (i := 15) (N := some 5) (v := ?_) (a' := ?_) #[true, true, true, true, true, true, true, true, true, true, true, true, true, true, true, true] rfl rfl (any_of HT_.out (by kernel_rfl)) (fun _ _ _ h => h) (Or.inl ⟨by rfl, ?_⟩) ?_ ?_
              rotate_left
              ·intro w'
               go_simp
               with_reducible rfl
              rotate_left
              ·simp only [Act.put, List.setIfInBounds_toArray, List.set_cons_zero, List.set_cons_succ, i64_w, i32_w]
               rfl
              refine done_ (done_of HT_.out (by kernel_rfl)) ?_
              try go_wp2
              go_meet
              case rel => exact ⟨_, (y192), (by first | exact H' | (simp only [hji18]; exact H')), ⟨by have := HJ6.out; have := HJ14.out; first | omega | exact Nat.le_refl _⟩, ⟨by (with_reducible repeat (first | apply Kd.R_alloc | apply Kd.R_drewN | apply Kd.R_drew)); exact HO194.out⟩, ⟨by repeat (first | (with_reducible first | exact HB.out | apply below_alloc | apply pw_below_drewN | apply below_drew1) | exact HB.out)⟩⟩
             ·rw [if_neg c25] at H
              exact absurd H (by simp)
            ·rw [if_neg c24] at H
             exact absurd H (by simp)
           ·rw [if_neg c21] at H
            exact absurd H (by simp)
          ·rw [if_neg c20] at H
           exact absurd H (by simp)
         ·rw [if_neg c19] at H
          exact absurd H (by simp)
        ·replace c17 := Bool.eq_false_iff.mpr c17
         subst c17
         have H1 : (if t186 ≤ (wrap64 (-(a0.size : Int))) then (if t186 ≥ (wrap64 ((wrap64 (-(a0.size : Int))) - 20)) then ((number_zeros.f (wrap64 ((wrap64 (-t186)) - (a0.size : Int)))).bind fun t195 => (if 2 + t195.size ≤ 9223372036854775807 then (if ((⟨#[48, 46]⟩ : ByteArray) ++ t195).size + a0.size ≤ 9223372036854775807 then (if ([] : List ByteArray).length < 8796093022208 then (number_plain.j2 kj14 a0 a1 (([] : List ByteArray) ++ [((⟨#[48, 46]⟩ : ByteArray) ++ t195) ++ a0]) (a0.size : Int)) else (none)) else (none)) else (none))) else (number_plain.j2 kj14 a0 a1 ([] : List ByteArray) (a0.size : Int))) else (number_plain.j2 kj14 a0 a1 ([] : List ByteArray) (a0.size : Int))) = some r := by rw [if_neg (show ¬ (false = true) by decide)] at H; exact H
         clear H
         have H := H1
         clear H1
         by_cases c28 : t186 ≤ (wrap64 (-(a0.size : Int)))
         ·rw [if_pos c28] at H
          have c28b0 : decide (t186 ≤ (wrap64 (-(a0.size : Int)))) = true := decide_eq_true c28
          clear c28
          by_cases c29 : t186 ≥ (wrap64 ((wrap64 (-(a0.size : Int))) - 20))
          ·rw [if_pos c29] at H
           have c29b0 : decide ((wrap64 ((wrap64 (-(a0.size : Int))) - 20)) ≤ t186) = true := decide_eq_true c29
           clear c29
           replace H := Option.bind_eq_some_iff.mp H
           obtain ⟨t195, A300, H⟩ := H
           replace H : (if 2 + t195.size ≤ 9223372036854775807 then (if ((⟨#[48, 46]⟩ : ByteArray) ++ t195).size + a0.size ≤ 9223372036854775807 then (if ([] : List ByteArray).length < 8796093022208 then (number_plain.j2 kj14 a0 a1 (([] : List ByteArray) ++ [((⟨#[48, 46]⟩ : ByteArray) ++ t195) ++ a0]) (a0.size : Int)) else (none)) else (none)) else (none)) = some r := H
           have A30 := Aside0.mk A300
           clear A300
           by_cases c31 : 2 + t195.size ≤ 9223372036854775807
           ·rw [if_pos c31] at H
            have c31b0 := eq_true c31
            have c31b1 : decide (2 + t195.size ≤ 9223372036854775807) = true := decide_eq_true c31
            try have c31b2 : (9223372036854775807 < 2 + t195.size) = False := eq_false (Nat.not_lt.2 c31)
            clear c31
            by_cases c32 : ((⟨#[48, 46]⟩ : ByteArray) ++ t195).size + a0.size ≤ 9223372036854775807
            ·rw [if_pos c32] at H
             have c32b0 := eq_true c32
             have c32b1 : decide (((⟨#[48, 46]⟩ : ByteArray) ++ t195).size + a0.size ≤ 9223372036854775807) = true := decide_eq_true c32
             try have c32b2 : (9223372036854775807 < ((⟨#[48, 46]⟩ : ByteArray) ++ t195).size + a0.size) = False := eq_false (Nat.not_lt.2 c32)
             (try (have c32b3 : (9223372036854775807 < 2 + t195.size + a0.size) = False := eq_false (Nat.not_lt.2 (by have h_ := c32; have e0_ : (⟨#[48, 46]⟩ : ByteArray).size = 2 := rfl; (try simp only [ByteArray.size_append, ByteArray.size_extract, e0_] at h_); (try simp only [decide_eq_true_eq] at *); omega))))
             clear c32
             by_cases c33 : ([] : List ByteArray).length < 8796093022208
             ·rw [if_pos c33] at H
              have LMc33 := Aside0.mk c33
              clear c33
              obtain ⟨y196, hy196⟩ : ∃ y_ : List ByteArray, y_ = (([] : List ByteArray) ++ [((⟨#[48, 46]⟩ : ByteArray) ++ t195) ++ a0]) := ⟨_, rfl⟩
              replace H : (number_plain.j2 kj14 a0 a1 y196 (a0.size : Int)) = some r := by first | (rw [hy196]; with_reducible exact H) | (have H2_ := (Option.bind_some _ _).symm.trans H; rw [hy196]; with_reducible exact H2_) | (have H2_ := (Option.bind_some _ _).symm.trans H; with_reducible exact H2_) | with_reducible exact H | (rw [hy196]; exact H) | exact H
              have Ny196 := Aside0.mk hy196
              clear hy196
              have H' := Aside0.mk H
              clear H
              go_wp2_with (first | ((with_reducible refine gate_callee (f := 68) rfl ?_); refine goesL_ (some 74) rfl rfl Tryd.func68 (by kernel_rfl) rfl #[.int .i64 (wrap64 ((wrap64 (-t186)) - (a0.size : Int)))] rfl (by (try simp only [List.map_toArray, List.map_cons, List.map_nil]); first | done | rfl | (simp only [List.length_drop, List.length_take]; rfl)) ?_; (with_reducible refine (number_zeros.calls (wrap64 ((wrap64 (-t186)) - (a0.size : Int))) t195 _ A30.out).mono ?_); rintro e w34 ⟨rfl, hb⟩; refine ⟨_, rfl, ?_⟩; have n0_ := Aside0.mk (Kd.R_below (by (with_reducible repeat (first | apply Kd.R_alloc | apply Kd.R_drewN | apply Kd.R_drew)); exact HO_5.out) hb); have n1_ := Aside0.mk (below_step (by repeat (first | (with_reducible first | exact HB.out | apply below_alloc | apply pw_below_drewN | apply below_drew1) | exact HB.out)) hb); clear HO_5; clear HB; have HO_5 := n0_; have HB := n1_; clear n0_ n1_; (try clear hb); (try clear hb2); (try clear hk); (try clear hi)) | ((with_reducible refine gate_builtin (b := .append) (xs := #[.tmp 69, .tmp 78]) rfl ?_); at_builtin; refine Kd.R_append Kd.string (w0 := w) w.heap.size rfl (.tmp 69) (.tmp 78) 38 9 (.string ⟨#[]⟩) 16 rfl Tryd.underlying38 info9 rfl (by decide) (by omega) (.slice none 0 0) ([] : List ByteArray) (((⟨#[48, 46]⟩ : ByteArray) ++ t195) ++ a0) [.string (((⟨#[48, 46]⟩ : ByteArray) ++ t195) ++ a0)] (fun _ => True) (fun _ => False) rfl rfl ?aP (fun _ hk => hk.elim) ?aF ?aO ?aB ?aS ?aL ?_; (case aP => exact rfl); (case aB => exact (by repeat (first | (with_reducible first | exact HB.out | apply below_alloc | apply pw_below_drewN | apply below_drew1) | exact HB.out))); (case aF => exact (fun _ _ => trivial)); (case aO => exact (by (with_reducible repeat (first | apply Kd.R_alloc | apply Kd.R_drewN | apply Kd.R_drew)); exact HO_5.out)); (case aS => exact (below_size (by repeat (first | (with_reducible first | exact HB.out | apply below_alloc | apply pw_below_drewN | apply below_drew1) | exact HB.out)))); (case aL => have := LMc33.out; omega); intro v197 w35 ho hb hg hat; rw [← Ny196.out] at ho; have n0_ := Aside0.mk (hb); have n1_ := Aside0.mk (ho); clear HB; clear HO_5; have HB := n0_; have HO198 := n1_; clear n0_ n1_; clear ho hb hg hat))
              go_meet
              case rel => exact ⟨_, (y196), H', ⟨by have := HJ6.out; have := HJ14.out; first | omega | exact Nat.le_refl _⟩, ⟨by (with_reducible repeat (first | apply Kd.R_alloc | apply Kd.R_drewN | apply Kd.R_drew)); exact HO198.out⟩, ⟨by repeat (first | (with_reducible first | exact HB.out | apply below_alloc | apply pw_below_drewN | apply below_drew1) | exact HB.out)⟩⟩
             ·rw [if_neg c33] at H
              exact absurd H (by simp)
            ·rw [if_neg c32] at H
             exact absurd H (by simp)
           ·rw [if_neg c31] at H
            exact absurd H (by simp)
          ·rw [if_neg c29] at H
           have c29b0 : decide ((wrap64 ((wrap64 (-(a0.size : Int))) - 20)) ≤ t186) = false := decide_eq_false c29
           clear c29
           have H' := Aside0.mk H
           clear H
           go_wp2
           go_meet
           case rel => exact ⟨_, (([] : List ByteArray)), H', ⟨by have := HJ6.out; have := HJ14.out; first | omega | exact Nat.le_refl _⟩, ⟨by (with_reducible repeat (first | apply Kd.R_alloc | apply Kd.R_drewN | apply Kd.R_drew)); exact HO_5.out⟩, ⟨by repeat (first | (with_reducible first | exact HB.out | apply below_alloc | apply pw_below_drewN | apply below_drew1) | exact HB.out)⟩⟩
         ·rw [if_neg c28] at H
          have c28b0 : decide (t186 ≤ (wrap64 (-(a0.size : Int)))) = false := decide_eq_false c28
          clear c28
          have H' := Aside0.mk H
          clear H
          go_wp2
          go_meet
          case rel => exact ⟨_, (([] : List ByteArray)), H', ⟨by have := HJ6.out; have := HJ14.out; first | omega | exact Nat.le_refl _⟩, ⟨by (with_reducible repeat (first | apply Kd.R_alloc | apply Kd.R_drewN | apply Kd.R_drew)); exact HO_5.out⟩, ⟨by repeat (first | (with_reducible first | exact HB.out | apply below_alloc | apply pw_below_drewN | apply below_drew1) | exact HB.out)⟩⟩
  ·replace c6 := Bool.eq_false_iff.mpr c6
   subst c6
   have H1 : (number_plain.j2 k a0 a1 ([] : List ByteArray) (a0.size : Int)) = some r := by rw [if_neg (show ¬ (false = true) by decide)] at H; exact H
   clear H
   have H := H1
   clear H1
   have H' := Aside0.mk H
   clear H
   go_wp2
   go_meet
   case rel => exact ⟨_, (([] : List ByteArray)), H', ⟨by first | omega | exact Nat.le_refl _⟩, ⟨by first | exact Kd.R_nil _ _ _ _ _ | exact Kd.N_nil _ _ _ _ _ | exact Kd.V_nil _ _ _ _ _ | exact Kd.Q_nil _ _ _ _ _ | exact Kd.S_nil _ _ _ _ _⟩, ⟨by repeat (first | (with_reducible first | exact HB.out | apply below_alloc | apply pw_below_drewN | apply below_drew1) | exact HB.out)⟩⟩
 case rest =>
  clear HC4
  try clear c1
  try clear c2
  try clear p2
  try clear c3
  try clear c5
  try clear c6
  try clear p6
  try clear c8
  try clear c8b0
  try clear c9
  try clear c11
  try clear c11b0
  try clear c11b1
  try clear c11b2
  try clear c12
  try clear c15
  try clear c16
  try clear c16b0
  try clear c17
  try clear c19
  try clear c19b0
  try clear c19b1
  try clear c20
  try clear c20b0
  try clear c20b1
  try clear c21
  try clear c21b0
  try clear c21b1
  try clear c21b2
  try clear c22
  try clear c22b0
  try clear c23
  try clear c23b0
  try clear c24
  try clear c24b0
  try clear c24b1
  try clear c24b2
  try clear c25
  try clear c28
  try clear c28b0
  try clear c29
  try clear c29b0
  try clear c31
  try clear c31b0
  try clear c31b1
  try clear c31b2
  try clear c32
  try clear c32b0
  try clear c32b1
  try clear c32b2
  try clear c33
  try clear p2
  try clear p6
  obtain ⟨kq, x5_3, HA, HJ3, HO_5, HB⟩ := hcut
  cases kq with
  | zero => exact absurd HA.out (by simp [number_plain.j2])
  | succ kj3 =>
   have H := HA.out
   clear HA
   simp only [number_plain.j2] at H
   by_cases c36 : a0.size + 1 ≤ 9223372036854775807
   ·rw [if_pos c36] at H
    have c36b0 := eq_true c36
    have c36b1 : decide (a0.size + 1 ≤ 9223372036854775807) = true := decide_eq_true c36
    try have c36b2 : (9223372036854775807 < a0.size + 1) = False := eq_false (Nat.not_lt.2 c36)
    clear c36
    by_cases c37 : (a0 ++ (⟨#[101]⟩ : ByteArray)).size + a1.size ≤ 9223372036854775807
    ·rw [if_pos c37] at H
     have c37b0 := eq_true c37
     have c37b1 : decide ((a0 ++ (⟨#[101]⟩ : ByteArray)).size + a1.size ≤ 9223372036854775807) = true := decide_eq_true c37
     try have c37b2 : (9223372036854775807 < (a0 ++ (⟨#[101]⟩ : ByteArray)).size + a1.size) = False := eq_false (Nat.not_lt.2 c37)
     (try (have c37b3 : (9223372036854775807 < a0.size + 1 + a1.size) = False := eq_false (Nat.not_lt.2 (by have h_ := c37; have e0_ : (⟨#[101]⟩ : ByteArray).size = 1 := rfl; (try simp only [ByteArray.size_append, ByteArray.size_extract, e0_] at h_); (try simp only [decide_eq_true_eq] at *); omega))))
     clear c37
     by_cases c38 : x5_3.length < 8796093022208
     ·rw [if_pos c38] at H
      have LMc38 := Aside0.mk c38
      clear c38
      obtain ⟨y199, hy199⟩ : ∃ y_ : List ByteArray, y_ = (x5_3 ++ [(a0 ++ (⟨#[101]⟩ : ByteArray)) ++ a1]) := ⟨_, rfl⟩
      replace H : (if (a0.size : Int) > 1 then ((strconv_Itoa.f (wrap64 ((a0.size : Int) - 1))).bind fun t202 => ((decimal_Add.f kj3 a1 t202).bind fun bt203 => (if bt203.1.toList = ([48] : List UInt8) then (some y199) else (if 0 ≤ 1 then (if 1 ≤ (a0.size : Int) then (if (a0.extract 0 1).size + 1 ≤ 9223372036854775807 then (if ((a0.extract 0 1) ++ (⟨#[46]⟩ : ByteArray)).size + (a0.extract 1 a0.size).size ≤ 9223372036854775807 then (if (((a0.extract 0 1) ++ (⟨#[46]⟩ : ByteArray)) ++ (a0.extract 1 a0.size)).size + 1 ≤ 9223372036854775807 then (if ((((a0.extract 0 1) ++ (⟨#[46]⟩ : ByteArray)) ++ (a0.extract 1 a0.size)) ++ (⟨#[101]⟩ : ByteArray)).size + bt203.1.size ≤ 9223372036854775807 then (if y199.length < 8796093022208 then (some (y199 ++ [((((a0.extract 0 1) ++ (⟨#[46]⟩ : ByteArray)) ++ (a0.extract 1 a0.size)) ++ (⟨#[101]⟩ : ByteArray)) ++ bt203.1])) else (none)) else (none)) else (none)) else (none)) else (none)) else (none)) else (none))))) else (some y199)) = some r := by first | (rw [hy199]; with_reducible exact H) | (have H2_ := (Option.bind_some _ _).symm.trans H; rw [hy199]; with_reducible exact H2_) | (have H2_ := (Option.bind_some _ _).symm.trans H; with_reducible exact H2_) | with_reducible exact H | (rw [hy199]; exact H) | exact H
      have Ny199 := Aside0.mk hy199
      clear hy199
      by_cases c39 : (a0.size : Int) > 1
      ·rw [if_pos c39] at H
       have c39b0 : decide (1 < (a0.size : Int)) = true := decide_eq_true c39
       have c39b1 : decide (1 < a0.size) = true := decide_eq_true (by omega)
       clear c39
       replace H := Option.bind_eq_some_iff.mp H
       obtain ⟨t202, A400, H⟩ := H
       replace H : ((decimal_Add.f kj3 a1 t202).bind fun bt203 => (if bt203.1.toList = ([48] : List UInt8) then (some y199) else (if 0 ≤ 1 then (if 1 ≤ (a0.size : Int) then (if (a0.extract 0 1).size + 1 ≤ 9223372036854775807 then (if ((a0.extract 0 1) ++ (⟨#[46]⟩ : ByteArray)).size + (a0.extract 1 a0.size).size ≤ 9223372036854775807 then (if (((a0.extract 0 1) ++ (⟨#[46]⟩ : ByteArray)) ++ (a0.extract 1 a0.size)).size + 1 ≤ 9223372036854775807 then (if ((((a0.extract 0 1) ++ (⟨#[46]⟩ : ByteArray)) ++ (a0.extract 1 a0.size)) ++ (⟨#[101]⟩ : ByteArray)).size + bt203.1.size ≤ 9223372036854775807 then (if y199.length < 8796093022208 then (some (y199 ++ [((((a0.extract 0 1) ++ (⟨#[46]⟩ : ByteArray)) ++ (a0.extract 1 a0.size)) ++ (⟨#[101]⟩ : ByteArray)) ++ bt203.1])) else (none)) else (none)) else (none)) else (none)) else (none)) else (none)) else (none)))) = some r := H
       have A40 := Aside0.mk A400
       clear A400
       replace H := Option.bind_eq_some_iff.mp H
       obtain ⟨⟨t203, t204⟩, A410, H⟩ := H
       replace H : (if t203.toList = ([48] : List UInt8) then (some y199) else (if 0 ≤ 1 then (if 1 ≤ (a0.size : Int) then (if (a0.extract 0 1).size + 1 ≤ 9223372036854775807 then (if ((a0.extract 0 1) ++ (⟨#[46]⟩ : ByteArray)).size + (a0.extract 1 a0.size).size ≤ 9223372036854775807 then (if (((a0.extract 0 1) ++ (⟨#[46]⟩ : ByteArray)) ++ (a0.extract 1 a0.size)).size + 1 ≤ 9223372036854775807 then (if ((((a0.extract 0 1) ++ (⟨#[46]⟩ : ByteArray)) ++ (a0.extract 1 a0.size)) ++ (⟨#[101]⟩ : ByteArray)).size + t203.size ≤ 9223372036854775807 then (if y199.length < 8796093022208 then (some (y199 ++ [((((a0.extract 0 1) ++ (⟨#[46]⟩ : ByteArray)) ++ (a0.extract 1 a0.size)) ++ (⟨#[101]⟩ : ByteArray)) ++ t203])) else (none)) else (none)) else (none)) else (none)) else (none)) else (none)) else (none))) = some r := H
       have A41 := Aside0.mk A410
       clear A410
       by_cases c42 : t203.toList = ([48] : List UInt8)
       ·rw [if_pos c42] at H
        have c42b0 : (t203.toList == ([48] : List UInt8)) = true := beq_iff_eq.mpr c42
        have c42b1 : (t203.toList != ([48] : List UInt8)) = false := bne_eq_false_iff_eq.mpr c42
        clear c42
        obtain rfl := Option.some.inj H
        go_wp2_with (first | ((with_reducible refine gate_builtin (b := .append) (xs := #[.tmp 80, .tmp 85]) rfl ?_); at_builtin; refine Kd.R_append Kd.string (w0 := w) w.heap.size rfl (.tmp 80) (.tmp 85) 38 9 (.string ⟨#[]⟩) 16 rfl Tryd.underlying38 info9 rfl (by decide) (by omega) u5 x5_3 ((a0 ++ (⟨#[101]⟩ : ByteArray)) ++ a1) [.string ((a0 ++ (⟨#[101]⟩ : ByteArray)) ++ a1)] (fun _ => True) (fun _ => False) rfl rfl ?aP (fun _ hk => hk.elim) ?aF ?aO ?aB ?aS ?aL ?_; (case aP => exact rfl); (case aB => exact (by repeat (first | (with_reducible first | exact HB.out | apply below_alloc | apply pw_below_drewN | apply below_drew1) | exact HB.out))); (case aF => exact (fun _ _ => trivial)); (case aO => exact (by (with_reducible repeat (first | apply Kd.R_alloc | apply Kd.R_drewN | apply Kd.R_drew)); exact HO_5.out)); (case aS => exact (below_size (by repeat (first | (with_reducible first | exact HB.out | apply below_alloc | apply pw_below_drewN | apply below_drew1) | exact HB.out)))); (case aL => have := LMc38.out; omega); intro v200 w43 ho hb hg hat; rw [← Ny199.out] at ho; have n0_ := Aside0.mk (hb); have n1_ := Aside0.mk (ho); clear HB; clear HO_5; have HB := n0_; have HO201 := n1_; clear n0_ n1_; clear ho hb hg hat) | ((with_reducible refine gate_callee (f := 40) rfl ?_); refine goesL_ (some 93) rfl rfl Tryd.func40 (by kernel_rfl) rfl #[.int .i64 (wrap64 ((a0.size : Int) - 1))] rfl (by (try simp only [List.map_toArray, List.map_cons, List.map_nil]); first | done | rfl | (simp only [List.length_drop, List.length_take]; rfl)) ?_; (with_reducible refine (strconv_Itoa.calls (wrap64 ((a0.size : Int) - 1)) t202 _ ?side1 A40.out).mono ?_); (case side1 => first | exact hL | exact LaidW.below hL (by repeat (first | (with_reducible first | exact HB.out | apply below_alloc | apply pw_below_drewN | apply below_drew1) | exact HB.out)) | (repeat (first | exact hL | apply LaidW.drewN | apply LaidW.drew))); rintro e w44 ⟨rfl, hb⟩; refine ⟨_, rfl, ?_⟩; have n0_ := Aside0.mk (Kd.R_below (by (with_reducible repeat (first | apply Kd.R_alloc | apply Kd.R_drewN | apply Kd.R_drew)); exact HO201.out) hb); have n1_ := Aside0.mk (below_step (by repeat (first | (with_reducible first | exact HB.out | apply below_alloc | apply pw_below_drewN | apply below_drew1) | exact HB.out)) hb); clear HO201; clear HB; have HO201 := n0_; have HB := n1_; clear n0_ n1_; (try clear hb); (try clear hb2); (try clear hk); (try clear hi)) | ((with_reducible refine gate_callee (f := 11) rfl ?_); refine goesL_ (some 94) rfl rfl Tryd.func11 (by kernel_rfl) rfl #[.string a1, .string t202] rfl (by (try simp only [List.map_toArray, List.map_cons, List.map_nil]); first | done | rfl | (simp only [List.length_drop, List.length_take]; rfl)) ?_; (with_reducible refine (decimal_Add.calls kj3 a1 t202 t203 t204 _ A41.out).mono ?_); rintro e w45 ⟨rfl, hb⟩; refine ⟨_, rfl, ?_⟩; have n0_ := Aside0.mk (Kd.R_below (by (with_reducible repeat (first | apply Kd.R_alloc | apply Kd.R_drewN | apply Kd.R_drew)); exact HO201.out) hb); have n1_ := Aside0.mk (below_step (by repeat (first | (with_reducible first | exact HB.out | apply below_alloc | apply pw_below_drewN | apply below_drew1) | exact HB.out)) hb); clear HO201; clear HB; have HO201 := n0_; have HB := n1_; clear n0_ n1_; (try clear hb); (try clear hb2); (try clear hk); (try clear hi)))
        go_ret
        exact ⟨_, by first | rfl | (simp [errW_none, errW_some] <;> rfl) | (simp [*, errW_none, errW_some] <;> rfl), by (with_reducible repeat (first | apply Kd.R_alloc | apply Kd.R_drewN | apply Kd.R_drew)); exact HO201.out, by repeat (first | (with_reducible first | exact HB.out | apply below_alloc | apply pw_below_drewN | apply below_drew1) | exact HB.out)⟩
       ·rw [if_neg c42] at H
        have c42b0 : (t203.toList == ([48] : List UInt8)) = false := beq_eq_false_iff_ne.mpr c42
        have c42b1 : (t203.toList != ([48] : List UInt8)) = true := bne_iff_ne.mpr c42
        by_cases c46 : 0 ≤ 1
        ·rw [if_pos c46] at H
         have c46b0 := eq_true c46
         have c46b1 : decide (0 ≤ 1) = true := decide_eq_true c46
         clear c46
         by_cases c47 : 1 ≤ (a0.size : Int)
         ·rw [if_pos c47] at H
          have c47b0 := eq_true c47
          have c47b1 : decide (1 ≤ (a0.size : Int)) = true := decide_eq_true c47
          clear c47
          by_cases c48 : (a0.extract 0 1).size + 1 ≤ 9223372036854775807
          ·rw [if_pos c48] at H
           have c48b0 := eq_true c48
           have c48b1 : decide ((a0.extract 0 1).size + 1 ≤ 9223372036854775807) = true := decide_eq_true c48
           try have c48b2 : (9223372036854775807 < (a0.extract 0 1).size + 1) = False := eq_false (Nat.not_lt.2 c48)
           (try (have c48b3 : (9223372036854775807 < 1 + 1) = False := eq_false (Nat.not_lt.2 (by have h_ := c48; (try simp only [ByteArray.size_append, ByteArray.size_extract] at h_); (try simp only [decide_eq_true_eq] at *); omega))))
           (try (have c48b4 : (9223372036854775807 < min 1 a0.size + 1) = False := eq_false (Nat.not_lt.2 (by have h_ := c48; (try simp only [ByteArray.size_append, ByteArray.size_extract] at h_); (try simp only [decide_eq_true_eq] at *); omega))))
           clear c48
           have c49b0 := eq_true (of_decide_eq_true (by first | (with_reducible assumption) | assumption) : 1 ≤ (a0.size : Int))
           by_cases c50 : ((a0.extract 0 1) ++ (⟨#[46]⟩ : ByteArray)).size + (a0.extract 1 a0.size).size ≤ 9223372036854775807
           ·rw [if_pos c50] at H
            have c50b0 := eq_true c50
            have c50b1 : decide (((a0.extract 0 1) ++ (⟨#[46]⟩ : ByteArray)).size + (a0.extract 1 a0.size).size ≤ 9223372036854775807) = true := decide_eq_true c50
            try have c50b2 : (9223372036854775807 < ((a0.extract 0 1) ++ (⟨#[46]⟩ : ByteArray)).size + (a0.extract 1 a0.size).size) = False := eq_false (Nat.not_lt.2 c50)
            (try (have c50b3 : (9223372036854775807 < 1 + 1 + (a0.size - 1)) = False := eq_false (Nat.not_lt.2 (by have h_ := c50; have e0_ : (⟨#[46]⟩ : ByteArray).size = 1 := rfl; (try simp only [ByteArray.size_append, ByteArray.size_extract, e0_] at h_); (try simp only [decide_eq_true_eq] at *); omega))))
            (try (have c50b4 : (9223372036854775807 < min 1 a0.size + 1 + (a0.size - 1)) = False := eq_false (Nat.not_lt.2 (by have h_ := c50; have e0_ : (⟨#[46]⟩ : ByteArray).size = 1 := rfl; (try simp only [ByteArray.size_append, ByteArray.size_extract, e0_] at h_); (try simp only [decide_eq_true_eq] at *); omega))))
            clear c50
            by_cases c51 : (((a0.extract 0 1) ++ (⟨#[46]⟩ : ByteArray)) ++ (a0.extract 1 a0.size)).size + 1 ≤ 9223372036854775807
            ·rw [if_pos c51] at H
             have c51b0 := eq_true c51
             have c51b1 : decide ((((a0.extract 0 1) ++ (⟨#[46]⟩ : ByteArray)) ++ (a0.extract 1 a0.size)).size + 1 ≤ 9223372036854775807) = true := decide_eq_true c51
             try have c51b2 : (9223372036854775807 < (((a0.extract 0 1) ++ (⟨#[46]⟩ : ByteArray)) ++ (a0.extract 1 a0.size)).size + 1) = False := eq_false (Nat.not_lt.2 c51)
             (try (have c51b3 : (9223372036854775807 < 1 + 1 + (a0.size - 1) + 1) = False := eq_false (Nat.not_lt.2 (by have h_ := c51; have e0_ : (⟨#[46]⟩ : ByteArray).size = 1 := rfl; (try simp only [ByteArray.size_append, ByteArray.size_extract, e0_] at h_); (try simp only [decide_eq_true_eq] at *); omega))))
             (try (have c51b4 : (9223372036854775807 < min 1 a0.size + 1 + (a0.size - 1) + 1) = False := eq_false (Nat.not_lt.2 (by have h_ := c51; have e0_ : (⟨#[46]⟩ : ByteArray).size = 1 := rfl; (try simp only [ByteArray.size_append, ByteArray.size_extract, e0_] at h_); (try simp only [decide_eq_true_eq] at *); omega))))
             clear c51
             by_cases c52 : ((((a0.extract 0 1) ++ (⟨#[46]⟩ : ByteArray)) ++ (a0.extract 1 a0.size)) ++ (⟨#[101]⟩ : ByteArray)).size + t203.size ≤ 9223372036854775807
             ·rw [if_pos c52] at H
              have c52b0 := eq_true c52
              have c52b1 : decide (((((a0.extract 0 1) ++ (⟨#[46]⟩ : ByteArray)) ++ (a0.extract 1 a0.size)) ++ (⟨#[101]⟩ : ByteArray)).size + t203.size ≤ 9223372036854775807) = true := decide_eq_true c52
              try have c52b2 : (9223372036854775807 < ((((a0.extract 0 1) ++ (⟨#[46]⟩ : ByteArray)) ++ (a0.extract 1 a0.size)) ++ (⟨#[101]⟩ : ByteArray)).size + t203.size) = False := eq_false (Nat.not_lt.2 c52)
              (try (have c52b3 : (9223372036854775807 < 1 + 1 + (a0.size - 1) + 1 + t203.size) = False := eq_false (Nat.not_lt.2 (by have h_ := c52; have e0_ : (⟨#[101]⟩ : ByteArray).size = 1 := rfl; have e1_ : (⟨#[46]⟩ : ByteArray).size = 1 := rfl; (try simp only [ByteArray.size_append, ByteArray.size_extract, e0_, e1_] at h_); (try simp only [decide_eq_true_eq] at *); omega))))
              (try (have c52b4 : (9223372036854775807 < min 1 a0.size + 1 + (a0.size - 1) + 1 + t203.size) = False := eq_false (Nat.not_lt.2 (by have h_ := c52; have e0_ : (⟨#[101]⟩ : ByteArray).size = 1 := rfl; have e1_ : (⟨#[46]⟩ : ByteArray).size = 1 := rfl; (try simp only [ByteArray.size_append, ByteArray.size_extract, e0_, e1_] at h_); (try simp only [decide_eq_true_eq] at *); omega))))
              clear c52
              by_cases c53 : y199.length < 8796093022208
              ·rw [if_pos c53] at H
               have LMc53 := Aside0.mk c53
               clear c53
               obtain ⟨y205, hy205⟩ : ∃ y_ : List ByteArray, y_ = (y199 ++ [((((a0.extract 0 1) ++ (⟨#[46]⟩ : ByteArray)) ++ (a0.extract 1 a0.size)) ++ (⟨#[101]⟩ : ByteArray)) ++ t203]) := ⟨_, rfl⟩
               replace H : (some y205) = some r := by first | (rw [hy205]; with_reducible exact H) | (have H2_ := (Option.bind_some _ _).symm.trans H; rw [hy205]; with_reducible exact H2_) | (have H2_ := (Option.bind_some _ _).symm.trans H; with_reducible exact H2_) | with_reducible exact H | (rw [hy205]; exact H) | exact H
               have Ny205 := Aside0.mk hy205
               clear hy205
               obtain rfl := Option.some.inj H
               try go_wp2_with (first | ((with_reducible refine gate_builtin (b := .append) (xs := #[.tmp 80, .tmp 85]) rfl ?_); at_builtin; refine Kd.R_append Kd.string (w0 := w) w.heap.size rfl (.tmp 80) (.tmp 85) 38 9 (.string ⟨#[]⟩) 16 rfl Tryd.underlying38 info9 rfl (by decide) (by omega) u5 x5_3 ((a0 ++ (⟨#[101]⟩ : ByteArray)) ++ a1) [.string ((a0 ++ (⟨#[101]⟩ : ByteArray)) ++ a1)] (fun _ => True) (fun _ => False) rfl rfl ?aP (fun _ hk => hk.elim) ?aF ?aO ?aB ?aS ?aL ?_; (case aP => exact rfl); (case aB => exact (by repeat (first | (with_reducible first | exact HB.out | apply below_alloc | apply pw_below_drewN | apply below_drew1) | exact HB.out))); (case aF => exact (fun _ _ => trivial)); (case aO => exact (by (with_reducible repeat (first | apply Kd.R_alloc | apply Kd.R_drewN | apply Kd.R_drew)); exact HO_5.out)); (case aS => exact (below_size (by repeat (first | (with_reducible first | exact HB.out | apply below_alloc | apply pw_below_drewN | apply below_drew1) | exact HB.out)))); (case aL => have := LMc38.out; omega); intro v200 w54 ho hb hg hat; rw [← Ny199.out] at ho; have n0_ := Aside0.mk (hb); have n1_ := Aside0.mk (ho); clear HB; clear HO_5; have HB := n0_; have HO201 := n1_; clear n0_ n1_; clear ho hb hg hat) | ((with_reducible refine gate_callee (f := 40) rfl ?_); refine goesL_ (some 93) rfl rfl Tryd.func40 (by kernel_rfl) rfl #[.int .i64 (wrap64 ((a0.size : Int) - 1))] rfl (by (try simp only [List.map_toArray, List.map_cons, List.map_nil]); first | done | rfl | (simp only [List.length_drop, List.length_take]; rfl)) ?_; (with_reducible refine (strconv_Itoa.calls (wrap64 ((a0.size : Int) - 1)) t202 _ ?side1 A40.out).mono ?_); (case side1 => first | exact hL | exact LaidW.below hL (by repeat (first | (with_reducible first | exact HB.out | apply below_alloc | apply pw_below_drewN | apply below_drew1) | exact HB.out)) | (repeat (first | exact hL | apply LaidW.drewN | apply LaidW.drew))); rintro e w55 ⟨rfl, hb⟩; refine ⟨_, rfl, ?_⟩; have n0_ := Aside0.mk (Kd.R_below (by (with_reducible repeat (first | apply Kd.R_alloc | apply Kd.R_drewN | apply Kd.R_drew)); exact HO201.out) hb); have n1_ := Aside0.mk (below_step (by repeat (first | (with_reducible first | exact HB.out | apply below_alloc | apply pw_below_drewN | apply below_drew1) | exact HB.out)) hb); clear HO201; clear HB; have HO201 := n0_; have HB := n1_; clear n0_ n1_; (try clear hb); (try clear hb2); (try clear hk); (try clear hi)) | ((with_reducible refine gate_callee (f := 11) rfl ?_); refine goesL_ (some 94) rfl rfl Tryd.func11 (by kernel_rfl) rfl #[.string a1, .string t202] rfl (by (try simp only [List.map_toArray, List.map_cons, List.map_nil]); first | done | rfl | (simp only [List.length_drop, List.length_take]; rfl)) ?_; (with_reducible refine (decimal_Add.calls kj3 a1 t202 t203 t204 _ A41.out).mono ?_); rintro e w56 ⟨rfl, hb⟩; refine ⟨_, rfl, ?_⟩; have n0_ := Aside0.mk (Kd.R_below (by (with_reducible repeat (first | apply Kd.R_alloc | apply Kd.R_drewN | apply Kd.R_drew)); exact HO201.out) hb); have n1_ := Aside0.mk (below_step (by repeat (first | (with_reducible first | exact HB.out | apply below_alloc | apply pw_below_drewN | apply below_drew1) | exact HB.out)) hb); clear HO201; clear HB; have HO201 := n0_; have HB := n1_; clear n0_ n1_; (try clear hb); (try clear hb2); (try clear hk); (try clear hi)))
               have n0_ := Aside0.mk (Kd.R_drew HO201.out)
               have n1_ := Aside0.mk (below_drew1 HB.out)
               clear HO201
               clear HB
               have HO201 := n0_
               have HB := n1_
               clear n0_ n1_
               refine start_ (n := 13) (S := fun w' => True) (ds := []) #[false, false, false, false, false, false, false, false, false, false, false, false, false] (by kernel_rfl) rfl rfl trivial (fun hHeld => ?_); refine with_tabW number_plain.tab15 number_plain.bits15 (fun HT_ HW_ => ?_)
               generalize w56.drew = w57 at HO201 HB hHeld ⊢
               refine pure_ (i := 0) (N := some 99) (v := ?_) (a' := ?_) #[true, false, false, false, false, false, false, false, false, false, false, false, false] rfl rfl (any_of HT_.out (by kernel_rfl)) (fun _ _ _ h => h) (Or.inl ⟨by rfl, ?_⟩) ?_ ?_
               rotate_left
               ·intro w'
                go_simp
                with_reducible rfl
               rotate_left
               ·simp only [Act.put, List.setIfInBounds_toArray, List.set_cons_zero, List.set_cons_succ, i64_w, i32_w]
                rfl
               refine pure_ (i := 1) (N := some 100) (v := ?_) (a' := ?_) #[true, true, false, false, false, false, false, false, false, false, false, false, false] rfl rfl (any_of HT_.out (by kernel_rfl)) (fun _ _ _ h => h) (Or.inl ⟨by rfl, ?_⟩) ?_ ?_
               rotate_left
               ·intro w'
                go_simp
                with_reducible rfl
               rotate_left
               ·simp only [Act.put, List.setIfInBounds_toArray, List.set_cons_zero, List.set_cons_succ, i64_w, i32_w]
                rfl
               refine pure_ (i := 2) (N := some 101) (v := ?_) (a' := ?_) #[true, true, true, false, false, false, false, false, false, false, false, false, false] rfl rfl (any_of HT_.out (by kernel_rfl)) (fun _ _ _ h => h) (Or.inl ⟨by rfl, ?_⟩) ?_ ?_
               rotate_left
               ·intro w'
                go_simp
                with_reducible rfl
               rotate_left
               ·simp only [Act.put, List.setIfInBounds_toArray, List.set_cons_zero, List.set_cons_succ, i64_w, i32_w]
                rfl
               refine pure_ (i := 3) (N := some 102) (v := ?_) (a' := ?_) #[true, true, true, true, false, false, false, false, false, false, false, false, false] rfl rfl (any_of HT_.out (by kernel_rfl)) (fun _ _ _ h => h) (Or.inl ⟨by rfl, ?_⟩) ?_ ?_
               rotate_left
               ·intro w'
                go_simp
                with_reducible rfl
               rotate_left
               ·simp only [Act.put, List.setIfInBounds_toArray, List.set_cons_zero, List.set_cons_succ, i64_w, i32_w]
                rfl
               refine pure_ (i := 4) (N := some 103) (v := ?_) (a' := ?_) #[true, true, true, true, true, false, false, false, false, false, false, false, false] rfl rfl (any_of HT_.out (by kernel_rfl)) (fun _ _ _ h => h) (Or.inl ⟨by rfl, ?_⟩) ?_ ?_
               rotate_left
               ·intro w'
                go_simp
                with_reducible rfl
               rotate_left
               ·simp only [Act.put, List.setIfInBounds_toArray, List.set_cons_zero, List.set_cons_succ, i64_w, i32_w]
                rfl
               refine pure_ (i := 5) (N := some 104) (v := ?_) (a' := ?_) #[true, true, true, true, true, true, false, false, false, false, false, false, false] rfl rfl (any_of HT_.out (by kernel_rfl)) (fun _ _ _ h => h) (Or.inl ⟨by rfl, ?_⟩) ?_ ?_
               rotate_left
               ·intro w'
                go_simp
                with_reducible rfl
               rotate_left
               ·simp only [Act.put, List.setIfInBounds_toArray, List.set_cons_zero, List.set_cons_succ, i64_w, i32_w]
                rfl
               refine pure_ (i := 6) (N := some 105) (v := ?_) (a' := ?_) #[true, true, true, true, true, true, true, false, false, false, false, false, false] rfl rfl (any_of HT_.out (by kernel_rfl)) (fun _ _ _ h => h) (Or.inl ⟨by rfl, ?_⟩) ?_ ?_
               rotate_left
               ·intro w'
                go_simp
                with_reducible rfl
               rotate_left
               ·simp only [Act.put, List.setIfInBounds_toArray, List.set_cons_zero, List.set_cons_succ, i64_w, i32_w]
                rfl
               refine pure_ (i := 7) (N := some 106) (v := ?_) (a' := ?_) #[true, true, true, true, true, true, true, true, false, false, false, false, false] rfl rfl (any_of HT_.out (by kernel_rfl)) (fun _ _ _ h => h) (Or.inl ⟨by rfl, ?_⟩) ?_ ?_
               rotate_left
               ·intro w'
                go_simp
                with_reducible rfl
               rotate_left
               ·simp only [Act.put, List.setIfInBounds_toArray, List.set_cons_zero, List.set_cons_succ, i64_w, i32_w]
                rfl
               refine pure_ (i := 8) (N := some 107) (v := ?_) (a' := ?_) #[true, true, true, true, true, true, true, true, true, false, false, false, false] rfl rfl (any_of HT_.out (by kernel_rfl)) (fun _ _ _ h => h) (Or.inl ⟨by rfl, ?_⟩) ?_ ?_
               rotate_left
               ·intro w'
                go_simp
                with_reducible rfl
               rotate_left
               ·simp only [Act.put, List.setIfInBounds_toArray, List.set_cons_zero, List.set_cons_succ, i64_w, i32_w]
                rfl
               refine pure_ (i := 9) (N := some 108) (v := ?_) (a' := ?_) #[true, true, true, true, true, true, true, true, true, true, false, false, false] rfl rfl (any_of HT_.out (by kernel_rfl)) (fun _ _ _ h => h) (Or.inl ⟨by rfl, ?_⟩) ?_ ?_
               rotate_left
               ·intro w'
                go_simp
                with_reducible rfl
               rotate_left
               ·simp only [Act.put, List.setIfInBounds_toArray, List.set_cons_zero, List.set_cons_succ, i64_w, i32_w]
                rfl
               refine one_ (i := 10) (N := some 109) #[true, true, true, true, true, true, true, true, true, true, true, false, false] rfl rfl (one_of HT_.out (by kernel_rfl)) (by decide) (fun K hK => ?_)
               refine value_ (w1 := ?_) (v := ?_) (by rfl) rfl ?_ ?_
               rotate_left 2
               ·go_simp
                constructor
                ·rfl
                ·rfl
               refine hK.out _ _ trivial (fun hHeld => ?_)
               clear hK K
               refine norm_ (a' := ?_) ?_ ?_
               rotate_left
               ·show Act.put _ (some 109) _ = _
                simp only [Act.put, List.setIfInBounds_toArray, List.set_cons_zero, List.set_cons_succ, i64_w, i32_w]
                rfl
               refine one_ (i := 11) (N := some 110) #[true, true, true, true, true, true, true, true, true, true, true, true, false] rfl rfl (one_of HT_.out (by kernel_rfl)) (by decide) (fun K hK => ?_)
               refine Kd.R_append_step Kd.string (w0 := w) w.heap.size (by rfl) (.tmp 99) (.tmp 109) 38 9 (.string ⟨#[]⟩) 16 rfl Tryd.underlying38 info9 rfl (by decide) (by omega) v200 y199 (((((a0.extract 0 1) ++ (⟨#[46]⟩ : ByteArray)) ++ (a0.extract 1 a0.size)) ++ (⟨#[101]⟩ : ByteArray)) ++ t203) [.string (((((a0.extract 0 1) ++ (⟨#[46]⟩ : ByteArray)) ++ (a0.extract 1 a0.size)) ++ (⟨#[101]⟩ : ByteArray)) ++ t203)] (fun _ => True) (fun _ => False) rfl rfl ?aP (fun _ hk => hk.elim) ?aF ?aO ?aB ?aS ?aL ?_
               (case aP => exact rfl)
               (case aB => exact (by repeat (first | (with_reducible first | exact HB.out | apply below_alloc | apply pw_below_drewN | apply below_drew1) | exact HB.out)))
               (case aF => exact (fun _ _ => trivial))
               (case aO => exact (by (with_reducible repeat (first | apply Kd.R_alloc | apply Kd.R_drewN | apply Kd.R_drew)); exact HO201.out))
               (case aS => exact (below_size (by repeat (first | (with_reducible first | exact HB.out | apply below_alloc | apply pw_below_drewN | apply below_drew1) | exact HB.out))))
               (case aL => have := LMc53.out; omega)
               intro v206 w58 ho hb hg hat
               rw [← Ny205.out] at ho
               have n0_ := Aside0.mk (hb)
               have n1_ := Aside0.mk (ho)
               clear HB
               clear HO201
               have HB := n0_
               have HO207 := n1_
               clear n0_ n1_
               clear ho hb hg hat
               refine hK.out _ _ trivial (fun hHeld => ?_)
               clear hK K
               refine norm_ (a' := ?_) ?_ ?_
               rotate_left
               ·show Act.put _ (some 110) _ = _
                simp only [Act.put, List.setIfInBounds_toArray, List.set_cons_zero, List.set_cons_succ, i64_w, i32_w]
                rfl
               refine pure_ (i := 12) (N := some 5) (v := ?_) (a' := ?_) #[true, true, true, true, true, true, true, true, true, true, true, true, true] rfl rfl (any_of HT_.out (by kernel_rfl)) (fun _ _ _ h => h) (Or.inl ⟨by rfl, ?_⟩) ?_ ?_
               rotate_left
               ·intro w'
                go_simp
                with_reducible rfl
               rotate_left
               ·simp only [Act.put, List.setIfInBounds_toArray, List.set_cons_zero, List.set_cons_succ, i64_w, i32_w]
                rfl
               refine done_ (done_of HT_.out (by kernel_rfl)) ?_
               try go_wp2
               go_ret
               exact ⟨_, by first | rfl | (simp [errW_none, errW_some] <;> rfl) | (simp [*, errW_none, errW_some] <;> rfl), by (with_reducible repeat (first | apply Kd.R_alloc | apply Kd.R_drewN | apply Kd.R_drew)); exact HO207.out, by repeat (first | (with_reducible first | exact HB.out | apply below_alloc | apply pw_below_drewN | apply below_drew1) | exact HB.out)⟩
              ·rw [if_neg c53] at H
               exact absurd H (by simp)
             ·rw [if_neg c52] at H
              exact absurd H (by simp)
            ·rw [if_neg c51] at H
             exact absurd H (by simp)
           ·rw [if_neg c50] at H
            exact absurd H (by simp)
          ·rw [if_neg c48] at H
           exact absurd H (by simp)
         ·rw [if_neg c47] at H
          exact absurd H (by simp)
        ·rw [if_neg c46] at H
         exact absurd H (by simp)
      ·rw [if_neg c39] at H
       have c39b0 : decide (1 < (a0.size : Int)) = false := decide_eq_false c39
       have c39b1 : decide (1 < a0.size) = false := decide_eq_false (by omega)
       clear c39
       obtain rfl := Option.some.inj H
       go_wp2_with (first | ((with_reducible refine gate_builtin (b := .append) (xs := #[.tmp 80, .tmp 85]) rfl ?_); at_builtin; refine Kd.R_append Kd.string (w0 := w) w.heap.size rfl (.tmp 80) (.tmp 85) 38 9 (.string ⟨#[]⟩) 16 rfl Tryd.underlying38 info9 rfl (by decide) (by omega) u5 x5_3 ((a0 ++ (⟨#[101]⟩ : ByteArray)) ++ a1) [.string ((a0 ++ (⟨#[101]⟩ : ByteArray)) ++ a1)] (fun _ => True) (fun _ => False) rfl rfl ?aP (fun _ hk => hk.elim) ?aF ?aO ?aB ?aS ?aL ?_; (case aP => exact rfl); (case aB => exact (by repeat (first | (with_reducible first | exact HB.out | apply below_alloc | apply pw_below_drewN | apply below_drew1) | exact HB.out))); (case aF => exact (fun _ _ => trivial)); (case aO => exact (by (with_reducible repeat (first | apply Kd.R_alloc | apply Kd.R_drewN | apply Kd.R_drew)); exact HO_5.out)); (case aS => exact (below_size (by repeat (first | (with_reducible first | exact HB.out | apply below_alloc | apply pw_below_drewN | apply below_drew1) | exact HB.out)))); (case aL => have := LMc38.out; omega); intro v200 w59 ho hb hg hat; rw [← Ny199.out] at ho; have n0_ := Aside0.mk (hb); have n1_ := Aside0.mk (ho); clear HB; clear HO_5; have HB := n0_; have HO201 := n1_; clear n0_ n1_; clear ho hb hg hat))
       go_ret
       exact ⟨_, by first | rfl | (simp [errW_none, errW_some] <;> rfl) | (simp [*, errW_none, errW_some] <;> rfl), by (with_reducible repeat (first | apply Kd.R_alloc | apply Kd.R_drewN | apply Kd.R_drew)); exact HO201.out, by repeat (first | (with_reducible first | exact HB.out | apply below_alloc | apply pw_below_drewN | apply below_drew1) | exact HB.out)⟩
     ·rw [if_neg c38] at H
      exact absurd H (by simp)
    ·rw [if_neg c37] at H
     exact absurd H (by simp)
   ·rw [if_neg c36] at H
    exact absurd H (by simp)
end Go.Proofs.YthimiidnbnlemaaDoor.P
