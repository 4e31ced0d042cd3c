-- printed by xprint.py (a program of this session's, over the kit's print); Lean checks it
import Derived.Test.YthimiidnbnlemaaDoorNumberShiftPx0
import Derived.Test.YthimiidnbnlemaaDoorNumberShiftPx1
import Derived.Test.YthimiidnbnlemaaDoorNumberShiftPx2
import Derived.Test.YthimiidnbnlemaaDoorNumberShiftPx8
import Derived.Test.YthimiidnbnlemaaDoorNumberShiftPx12
namespace Go.Proofs.YthimiidnbnlemaaDoor.P
open Go.RowKit Go.Proofs.YthimiidnbnlemaaDoorW.PrintWords Go.Proofs.YthimiidnbnlemaaDoorW.PrintLast Go.Proofs.YthimiidnbnlemaaDoorW.PrintMore Go.Proofs.YthimiidnbnlemaaDoorX
attribute [local go_sem] max2_int min2_int max_two min_two max_three min_three max_four min_four   -- for this text's walks alone
set_option linter.unusedVariables false
set_option linter.unusedSimpArgs false
attribute [local go_sem high] eqA34
mutual
def l5_NumberShift.j0 : Nat → List Int → Int → Int → Bool → Bool → Bool → Option (Bool)
 | 0, _, _, _, _, _, _ => none
 | k + 1, x0, x1, x2, x3, x9, x51 => if x51 = true then (some x9) else (l5_NumberShift.l0 k x0 x1 x2 x3 (⟨#[]⟩ : ByteArray) 0)
def l5_NumberShift.l0 : Nat → List Int → Int → Int → Bool → ByteArray → Int → Option (Bool)
 | 0, _, _, _, _, _, _ => none
 | k + 1, x0, x1, x2, x3, x10, x11 => if x11 < (x0.length : Int) then (if 0 ≤ x11 then (if 0 ≤ (Int.tmod (Go.bits .and .i64 (rd x0 x11) 1023) 10) then (if (Int.tmod (Go.bits .and .i64 (rd x0 x11) 1023) 10) ≤ (wrap64 ((Int.tmod (Go.bits .and .i64 (rd x0 x11) 1023) 10) + 1)) then (if (wrap64 ((Int.tmod (Go.bits .and .i64 (rd x0 x11) 1023) 10) + 1)) ≤ 10 then (if x10.size + ((⟨#[48, 49, 50, 51, 52, 53, 54, 55, 56, 57]⟩ : ByteArray).extract ((Int.tmod (Go.bits .and .i64 (rd x0 x11) 1023) 10) : Int).toNat ((wrap64 ((Int.tmod (Go.bits .and .i64 (rd x0 x11) 1023) 10) + 1)) : Int).toNat).size ≤ 9223372036854775807 then (l5_NumberShift.l0 k x0 x1 x2 x3 (x10 ++ ((⟨#[48, 49, 50, 51, 52, 53, 54, 55, 56, 57]⟩ : ByteArray).extract ((Int.tmod (Go.bits .and .i64 (rd x0 x11) 1023) 10) : Int).toNat ((wrap64 ((Int.tmod (Go.bits .and .i64 (rd x0 x11) 1023) 10) + 1)) : Int).toNat)) (wrap64 (x11 + 1))) else (none)) else (none)) else (none)) else (none)) else (none)) else (if x3 = true then (l5_NumberShift.j2 k x1 x2 x3 x10 (⟨#[45]⟩ : ByteArray)) else (l5_NumberShift.j2 k x1 x2 x3 x10 (⟨#[]⟩ : ByteArray)))
def l5_NumberShift.j2 : Nat → Int → Int → Bool → ByteArray → ByteArray → Option (Bool)
 | 0, _, _, _, _, _ => none
 | k + 1, x1, x2, x3, x10, x13 => if 0 ≤ x2 then (if x2 ≤ 30 then (if x13.size + x10.size ≤ 9223372036854775807 then (if (x13 ++ x10).size + 1 ≤ 9223372036854775807 then ((r1_Dec.f k x1).bind fun t237 => (if ((x13 ++ x10) ++ (⟨#[101]⟩ : ByteArray)).size + t237.size ≤ 9223372036854775807 then ((number_Read.f k (((x13 ++ x10) ++ (⟨#[101]⟩ : ByteArray)) ++ t237)).bind fun bt238 => (if (x13 ++ x10).size + ((⟨#[48, 48, 48, 48, 48, 48, 48, 48, 48, 48, 48, 48, 48, 48, 48, 48, 48, 48, 48, 48, 48, 48, 48, 48, 48, 48, 48, 48, 48, 48]⟩ : ByteArray).extract 0 (x2 : Int).toNat).size ≤ 9223372036854775807 then (if ((x13 ++ x10) ++ ((⟨#[48, 48, 48, 48, 48, 48, 48, 48, 48, 48, 48, 48, 48, 48, 48, 48, 48, 48, 48, 48, 48, 48, 48, 48, 48, 48, 48, 48, 48, 48]⟩ : ByteArray).extract 0 (x2 : Int).toNat)).size + 1 ≤ 9223372036854775807 then ((r1_Dec.f k (wrap64 (x1 - x2))).bind fun t243 => (if (((x13 ++ x10) ++ ((⟨#[48, 48, 48, 48, 48, 48, 48, 48, 48, 48, 48, 48, 48, 48, 48, 48, 48, 48, 48, 48, 48, 48, 48, 48, 48, 48, 48, 48, 48, 48]⟩ : ByteArray).extract 0 (x2 : Int).toNat)) ++ (⟨#[69]⟩ : ByteArray)).size + t243.size ≤ 9223372036854775807 then ((number_Read.f k ((((x13 ++ x10) ++ ((⟨#[48, 48, 48, 48, 48, 48, 48, 48, 48, 48, 48, 48, 48, 48, 48, 48, 48, 48, 48, 48, 48, 48, 48, 48, 48, 48, 48, 48, 48, 48]⟩ : ByteArray).extract 0 (x2 : Int).toNat)) ++ (⟨#[69]⟩ : ByteArray)) ++ t243)).bind fun bt244 => (if x13.size + 2 ≤ 9223372036854775807 then (if (x13 ++ (⟨#[48, 48]⟩ : ByteArray)).size + x10.size ≤ 9223372036854775807 then (if ((x13 ++ (⟨#[48, 48]⟩ : ByteArray)) ++ x10).size + 1 ≤ 9223372036854775807 then (if (((x13 ++ (⟨#[48, 48]⟩ : ByteArray)) ++ x10) ++ (⟨#[46]⟩ : ByteArray)).size + ((⟨#[48, 48, 48, 48, 48, 48, 48, 48, 48, 48, 48, 48, 48, 48, 48, 48, 48, 48, 48, 48, 48, 48, 48, 48, 48, 48, 48, 48, 48, 48]⟩ : ByteArray).extract 0 (x2 : Int).toNat).size ≤ 9223372036854775807 then (if ((((x13 ++ (⟨#[48, 48]⟩ : ByteArray)) ++ x10) ++ (⟨#[46]⟩ : ByteArray)) ++ ((⟨#[48, 48, 48, 48, 48, 48, 48, 48, 48, 48, 48, 48, 48, 48, 48, 48, 48, 48, 48, 48, 48, 48, 48, 48, 48, 48, 48, 48, 48, 48]⟩ : ByteArray).extract 0 (x2 : Int).toNat)).size + 2 ≤ 9223372036854775807 then ((r1_Dec.f k x1).bind fun t249 => (if (((((x13 ++ (⟨#[48, 48]⟩ : ByteArray)) ++ x10) ++ (⟨#[46]⟩ : ByteArray)) ++ ((⟨#[48, 48, 48, 48, 48, 48, 48, 48, 48, 48, 48, 48, 48, 48, 48, 48, 48, 48, 48, 48, 48, 48, 48, 48, 48, 48, 48, 48, 48, 48]⟩ : ByteArray).extract 0 (x2 : Int).toNat)) ++ (⟨#[48, 101]⟩ : ByteArray)).size + t249.size ≤ 9223372036854775807 then ((number_Read.f k ((((((x13 ++ (⟨#[48, 48]⟩ : ByteArray)) ++ x10) ++ (⟨#[46]⟩ : ByteArray)) ++ ((⟨#[48, 48, 48, 48, 48, 48, 48, 48, 48, 48, 48, 48, 48, 48, 48, 48, 48, 48, 48, 48, 48, 48, 48, 48, 48, 48, 48, 48, 48, 48]⟩ : ByteArray).extract 0 (x2 : Int).toNat)) ++ (⟨#[48, 101]⟩ : ByteArray)) ++ t249)).bind fun bt250 => (if x13.size + 1 ≤ 9223372036854775807 then (if (x13 ++ (⟨#[46]⟩ : ByteArray)).size + ((⟨#[48, 48, 48, 48, 48, 48, 48, 48, 48, 48, 48, 48, 48, 48, 48, 48, 48, 48, 48, 48, 48, 48, 48, 48, 48, 48, 48, 48, 48, 48]⟩ : ByteArray).extract 0 (x2 : Int).toNat).size ≤ 9223372036854775807 then (if ((x13 ++ (⟨#[46]⟩ : ByteArray)) ++ ((⟨#[48, 48, 48, 48, 48, 48, 48, 48, 48, 48, 48, 48, 48, 48, 48, 48, 48, 48, 48, 48, 48, 48, 48, 48, 48, 48, 48, 48, 48, 48]⟩ : ByteArray).extract 0 (x2 : Int).toNat)).size + x10.size ≤ 9223372036854775807 then (if (((x13 ++ (⟨#[46]⟩ : ByteArray)) ++ ((⟨#[48, 48, 48, 48, 48, 48, 48, 48, 48, 48, 48, 48, 48, 48, 48, 48, 48, 48, 48, 48, 48, 48, 48, 48, 48, 48, 48, 48, 48, 48]⟩ : ByteArray).extract 0 (x2 : Int).toNat)) ++ x10).size + 1 ≤ 9223372036854775807 then ((r1_Dec.f k (wrap64 ((wrap64 (x1 + x2)) + (x10.size : Int)))).bind fun t255 => (if ((((x13 ++ (⟨#[46]⟩ : ByteArray)) ++ ((⟨#[48, 48, 48, 48, 48, 48, 48, 48, 48, 48, 48, 48, 48, 48, 48, 48, 48, 48, 48, 48, 48, 48, 48, 48, 48, 48, 48, 48, 48, 48]⟩ : ByteArray).extract 0 (x2 : Int).toNat)) ++ x10) ++ (⟨#[101]⟩ : ByteArray)).size + t255.size ≤ 9223372036854775807 then ((number_Read.f k (((((x13 ++ (⟨#[46]⟩ : ByteArray)) ++ ((⟨#[48, 48, 48, 48, 48, 48, 48, 48, 48, 48, 48, 48, 48, 48, 48, 48, 48, 48, 48, 48, 48, 48, 48, 48, 48, 48, 48, 48, 48, 48]⟩ : ByteArray).extract 0 (x2 : Int).toNat)) ++ x10) ++ (⟨#[101]⟩ : ByteArray)) ++ t255)).bind fun bt256 => (if bt238.2.2.2 = true then (if bt244.2.2.2 = true then (if bt250.2.2.2 = true then (if bt256.2.2.2 = true then (if (bt238.1 == bt244.1 && (bt238.2.1.toList == bt244.2.1.toList && (bt238.2.2.1.toList == bt244.2.2.1.toList))) = true then (if (bt238.1 == bt250.1 && (bt238.2.1.toList == bt250.2.1.toList && (bt238.2.2.1.toList == bt250.2.2.1.toList))) = true then (if (bt238.1 == bt256.1 && (bt238.2.1.toList == bt256.2.1.toList && (bt238.2.2.1.toList == bt256.2.2.1.toList))) = true then (some (bt238.1 == x3)) else (some false)) else (some false)) else (some false)) else (some false)) else (some false)) else (some false)) else (some false))) else (none))) else (none)) else (none)) else (none)) else (none))) else (none))) else (none)) else (none)) else (none)) else (none)) else (none))) else (none))) else (none)) else (none))) else (none))) else (none)) else (none)) else (none)) else (none)
end
def l5_NumberShift.f (k : Nat) (l0 : List Int) (a1 : Int) (a2 : Int) (a3 : Bool) : Option (Bool) := (l5_alive.f k).bind fun t235 => (if t235 = true then (if (l0.length : Int) < 1 then (l5_NumberShift.j0 k l0 a1 a2 a3 t235 true) else (if (l0.length : Int) > 40 then (l5_NumberShift.j0 k l0 a1 a2 a3 t235 true) else (if a1 < (-1000) then (l5_NumberShift.j0 k l0 a1 a2 a3 t235 true) else (if a1 > 1000 then (l5_NumberShift.j0 k l0 a1 a2 a3 t235 true) else (if a2 < 0 then (l5_NumberShift.j0 k l0 a1 a2 a3 t235 true) else (l5_NumberShift.j0 k l0 a1 a2 a3 t235 (decide (a2 > 30)))))))) else (l5_NumberShift.j0 k l0 a1 a2 a3 t235 true))
set_option maxHeartbeats 8000000 in
set_option maxRecDepth 100000 in
theorem l5_NumberShift.calls (k : Nat) (A0 : Option Addr) (c0 : Nat) (l0 : List Int) (a1 : Int) (a2 : Int) (a3 : Bool) (r : Bool) (w : World) (hr0 : Kd.C (Kd.int .i64) w A0 l0.length l0) (hc0 : l0.length ≤ c0) (hL : LaidW w) (hr_ : Aside0 (r = true)) (h : l5_NumberShift.f k l0 a1 a2 a3 = some r) :
  Calls Tryd.prog 7 #[.slice A0 l0.length c0, .int .i64 a1, .int .i64 a2, .bool a3] w fun e w' => e = .returned (.bool r) ∧ Below w.heap.size w w' := by
 have hu34 := Tryd.underlying34
 have HR0 := Aside0.mk hr0
 have HC0 := Aside0.mk hc0
 clear hr0 hc0
 have HB := Aside0.mk (Below.refl w.heap.size w)
 have H : ((l5_alive.f k).bind fun t235 => (if t235 = true then (if (l0.length : Int) < 1 then (l5_NumberShift.j0 k l0 a1 a2 a3 t235 true) else (if (l0.length : Int) > 40 then (l5_NumberShift.j0 k l0 a1 a2 a3 t235 true) else (if a1 < (-1000) then (l5_NumberShift.j0 k l0 a1 a2 a3 t235 true) else (if a1 > 1000 then (l5_NumberShift.j0 k l0 a1 a2 a3 t235 true) else (if a2 < 0 then (l5_NumberShift.j0 k l0 a1 a2 a3 t235 true) else (l5_NumberShift.j0 k l0 a1 a2 a3 t235 (decide (a2 > 30)))))))) else (l5_NumberShift.j0 k l0 a1 a2 a3 t235 true))) = some r := h
 clear h
 replace H := Option.bind_eq_some_iff.mp H
 obtain ⟨t235, A50, H⟩ := H
 replace H : (if t235 = true then (if (l0.length : Int) < 1 then (l5_NumberShift.j0 k l0 a1 a2 a3 t235 true) else (if (l0.length : Int) > 40 then (l5_NumberShift.j0 k l0 a1 a2 a3 t235 true) else (if a1 < (-1000) then (l5_NumberShift.j0 k l0 a1 a2 a3 t235 true) else (if a1 > 1000 then (l5_NumberShift.j0 k l0 a1 a2 a3 t235 true) else (if a2 < 0 then (l5_NumberShift.j0 k l0 a1 a2 a3 t235 true) else (l5_NumberShift.j0 k l0 a1 a2 a3 t235 (decide (a2 > 30)))))))) else (l5_NumberShift.j0 k l0 a1 a2 a3 t235 true)) = some r := H
 have A5 := Aside0.mk A50
 clear A50
 have HC6 := Aside0.mk H
 clear H
 go_enter Tryd.func7, Tryd.ntmps7
 go_upto_region 2 with (first | ((with_reducible refine gate_callee (f := 19) rfl ?_); refine goesL_ (some 23) rfl rfl Tryd.func19 (by kernel_rfl) rfl #[] rfl (by (try simp only [List.map_toArray, List.map_cons, List.map_nil]); first | done | rfl | (simp only [List.length_drop, List.length_take]; rfl)) ?_; (with_reducible refine (l5_alive.calls k  t235 _ ?side1 A5.out).mono ?_); (case side1 => first | exact hL | exact LaidW.below hL (by repeat (first | (with_reducible first | exact HB.out | apply below_alloc | apply pw_below_drewN | apply below_drew1) | exact HB.out)) | (repeat (first | exact hL | apply LaidW.drewN | apply LaidW.drew))); rintro e w7 ⟨rfl, hb⟩; refine ⟨_, rfl, ?_⟩; have n0_ := Aside0.mk (below_step (by repeat (first | (with_reducible first | exact HB.out | apply below_alloc | apply pw_below_drewN | apply below_drew1) | exact HB.out)) hb); clear HB; have HB := n0_; clear n0_; (try clear hb); (try clear hb2); (try clear hk); (try clear hi)))
 (try simp only [Act.put, List.setIfInBounds_toArray, List.set_cons_zero, List.set_cons_succ])
 go_cut [51] (fun v51 wc => ∃ (kq : Nat) (x51_5 : Bool), v51 = .bool x51_5 ∧ Aside0 (l5_NumberShift.j0 kq l0 a1 a2 a3 t235 x51_5 = some r) ∧ Aside0 (kq ≤ k) ∧ Aside0 (Below w.heap.size w wc))
 case first =>
  have H := HC6.out
  clear HC6
  by_cases c8 : t235 = true
  ·subst c8
   have H1 : (if (l0.length : Int) < 1 then (l5_NumberShift.j0 k l0 a1 a2 a3 true true) else (if (l0.length : Int) > 40 then (l5_NumberShift.j0 k l0 a1 a2 a3 true true) else (if a1 < (-1000) then (l5_NumberShift.j0 k l0 a1 a2 a3 true true) else (if a1 > 1000 then (l5_NumberShift.j0 k l0 a1 a2 a3 true true) else (if a2 < 0 then (l5_NumberShift.j0 k l0 a1 a2 a3 true true) else (l5_NumberShift.j0 k l0 a1 a2 a3 true (decide (a2 > 30)))))))) = some r := by rw [if_pos rfl] at H; exact H
   clear H
   have H := H1
   clear H1
   by_cases c9 : (l0.length : Int) < 1
   ·rw [if_pos c9] at H
    have c9b0 : decide ((l0.length : Int) < 1) = true := decide_eq_true c9
    have c9b1 : decide (l0.length < 1) = true := decide_eq_true (by omega)
    clear c9
    (first | rw [c9b0] | (simp only [i64_w, i32_w]; rw [c9b0]) | skip)
    have H' := Aside0.mk H
    clear H
    go_wp2
    go_meet
    case rel => exact ⟨_, (true), (by first | rfl | (simp; done) | (simp [bne_nil_]; done) | (simp [*]; done) | (simp [wrap64]; done) | (refine congrArg (Value.int .i64) ?_; unfold wrap64; omega)), H', ⟨by first | omega | exact Nat.le_refl _⟩, ⟨by repeat (first | (with_reducible first | exact HB.out | apply below_alloc | apply pw_below_drewN | apply below_drew1) | exact HB.out)⟩⟩
   ·rw [if_neg c9] at H
    have c9b0 : decide ((l0.length : Int) < 1) = false := decide_eq_false c9
    have c9b1 : decide (l0.length < 1) = false := decide_eq_false (by omega)
    clear c9
    (first | rw [c9b0] | (simp only [i64_w, i32_w]; rw [c9b0]) | skip)
    by_cases c10 : (l0.length : Int) > 40
    ·rw [if_pos c10] at H
     have c10b0 : decide (40 < (l0.length : Int)) = true := decide_eq_true c10
     have c10b1 : decide (40 < l0.length) = true := decide_eq_true (by omega)
     clear c10
     have H' := Aside0.mk H
     clear H
     go_wp2
     go_meet
     case rel => exact ⟨_, (true), (by first | rfl | (simp; done) | (simp [bne_nil_]; done) | (simp [*]; done) | (simp [wrap64]; done) | (refine congrArg (Value.int .i64) ?_; unfold wrap64; omega)), H', ⟨by first | omega | exact Nat.le_refl _⟩, ⟨by repeat (first | (with_reducible first | exact HB.out | apply below_alloc | apply pw_below_drewN | apply below_drew1) | exact HB.out)⟩⟩
    ·rw [if_neg c10] at H
     have c10b0 : decide (40 < (l0.length : Int)) = false := decide_eq_false c10
     have c10b1 : decide (40 < l0.length) = false := decide_eq_false (by omega)
     clear c10
     by_cases c11 : a1 < (-1000)
     ·rw [if_pos c11] at H
      have c11b0 : decide (a1 < (-1000)) = true := decide_eq_true c11
      clear c11
      have H' := Aside0.mk H
      clear H
      go_wp2
      go_meet
      case rel => exact ⟨_, (true), (by first | rfl | (simp; done) | (simp [bne_nil_]; done) | (simp [*]; done) | (simp [wrap64]; done) | (refine congrArg (Value.int .i64) ?_; unfold wrap64; omega)), H', ⟨by first | omega | exact Nat.le_refl _⟩, ⟨by repeat (first | (with_reducible first | exact HB.out | apply below_alloc | apply pw_below_drewN | apply below_drew1) | exact HB.out)⟩⟩
     ·rw [if_neg c11] at H
      have c11b0 : decide (a1 < (-1000)) = false := decide_eq_false c11
      clear c11
      by_cases c12 : a1 > 1000
      ·rw [if_pos c12] at H
       have c12b0 : decide (1000 < a1) = true := decide_eq_true c12
       clear c12
       have H' := Aside0.mk H
       clear H
       go_wp2
       go_meet
       case rel => exact ⟨_, (true), (by first | rfl | (simp; done) | (simp [bne_nil_]; done) | (simp [*]; done) | (simp [wrap64]; done) | (refine congrArg (Value.int .i64) ?_; unfold wrap64; omega)), H', ⟨by first | omega | exact Nat.le_refl _⟩, ⟨by repeat (first | (with_reducible first | exact HB.out | apply below_alloc | apply pw_below_drewN | apply below_drew1) | exact HB.out)⟩⟩
      ·rw [if_neg c12] at H
       have c12b0 : decide (1000 < a1) = false := decide_eq_false c12
       clear c12
       by_cases c13 : a2 < 0
       ·rw [if_pos c13] at H
        have c13b0 : decide (a2 < 0) = true := decide_eq_true c13
        clear c13
        have H' := Aside0.mk H
        clear H
        go_wp2
        go_meet
        case rel => exact ⟨_, (true), (by first | rfl | (simp; done) | (simp [bne_nil_]; done) | (simp [*]; done) | (simp [wrap64]; done) | (refine congrArg (Value.int .i64) ?_; unfold wrap64; omega)), H', ⟨by first | omega | exact Nat.le_refl _⟩, ⟨by repeat (first | (with_reducible first | exact HB.out | apply below_alloc | apply pw_below_drewN | apply below_drew1) | exact HB.out)⟩⟩
       ·rw [if_neg c13] at H
        have c13b0 : decide (a2 < 0) = false := decide_eq_false c13
        clear c13
        have H' := Aside0.mk H
        clear H
        go_wp2
        go_meet
        case rel => exact ⟨_, (decide (a2 > 30)), (by first | rfl | (simp; done) | (simp [bne_nil_]; done) | (simp [*]; done) | (simp [wrap64]; done) | (refine congrArg (Value.int .i64) ?_; unfold wrap64; omega)), H', ⟨by first | omega | exact Nat.le_refl _⟩, ⟨by repeat (first | (with_reducible first | exact HB.out | apply below_alloc | apply pw_below_drewN | apply below_drew1) | exact HB.out)⟩⟩
  ·replace c8 := Bool.eq_false_iff.mpr c8
   subst c8
   have H1 : (l5_NumberShift.j0 k l0 a1 a2 a3 false true) = some r := by rw [if_neg (show ¬ (false = true) by decide)] at H; exact H
   clear H
   have H := H1
   clear H1
   have H' := Aside0.mk H
   clear H
   go_wp2
   go_meet
   case rel => exact ⟨_, (true), (by first | rfl | (simp; done) | (simp [bne_nil_]; done) | (simp [*]; done) | (simp [wrap64]; done) | (refine congrArg (Value.int .i64) ?_; unfold wrap64; omega)), H', ⟨by first | omega | exact Nat.le_refl _⟩, ⟨by repeat (first | (with_reducible first | exact HB.out | apply below_alloc | apply pw_below_drewN | apply below_drew1) | exact HB.out)⟩⟩
 case rest =>
  clear HC6
  try clear c1
  try clear p2
  try clear p6
  try clear c7
  try clear c8
  try clear c9
  try clear c9b0
  try clear c9b1
  try clear c10
  try clear c10b0
  try clear c10b1
  try clear c11
  try clear c11b0
  try clear c12
  try clear c12b0
  try clear c13
  try clear c13b0
  obtain ⟨kq, x51_5, rfl, HA, HJ5, HB⟩ := hcut
  cases kq with
  | zero => exact absurd HA.out (by simp [l5_NumberShift.j0])
  | succ kj5 =>
   have H := HA.out
   clear HA
   simp only [l5_NumberShift.j0] at H
   by_cases c14 : x51_5 = true
   ·subst c14
    have H1 : (some t235) = some r := by rw [if_pos rfl] at H; exact H
    clear H
    have H := H1
    clear H1
    obtain rfl := Option.some.inj H
    go_wp2
    go_ret
    exact ⟨by first | rfl | (simp [errW_none, errW_some] <;> rfl) | (simp [*, errW_none, errW_some] <;> rfl), by repeat (first | (with_reducible first | exact HB.out | apply below_alloc | apply pw_below_drewN | apply below_drew1) | exact HB.out)⟩
   ·replace c14 := Bool.eq_false_iff.mpr c14
    subst c14
    have H1 : (l5_NumberShift.l0 kj5 l0 a1 a2 a3 (⟨#[]⟩ : ByteArray) 0) = some r := by rw [if_neg (show ¬ (false = true) by decide)] at H; exact H
    clear H
    have H := H1
    clear H1
    have H' := Aside0.mk H
    clear H
    go_wp2
    go_loopg [10, 11] kj5 (fun kq v10 v11 w' => ∃ (x10_2 : ByteArray) (x11_2 : Int), v10 = .string x10_2 ∧ v11 = .int .i64 x11_2 ∧ Aside0 (l5_NumberShift.l0 kq l0 a1 a2 a3 x10_2 x11_2 = some r) ∧ Aside0 (kq ≤ kj5) ∧ Aside0 (Below w.heap.size w w'))
    case atStart => exact ⟨((⟨#[]⟩ : ByteArray)), (0), (by first | rfl | (simp; done) | (simp [bne_nil_]; done) | (simp [*]; done) | (simp [wrap64]; done) | (refine congrArg (Value.int .i64) ?_; unfold wrap64; omega)), (by first | rfl | (simp; done) | (simp [bne_nil_]; done) | (simp [*]; done) | (simp [wrap64]; done) | (refine congrArg (Value.int .i64) ?_; unfold wrap64; omega)), H', ⟨Nat.le_refl _⟩, ⟨by repeat (first | (with_reducible first | exact HB.out | apply below_alloc | apply pw_below_drewN | apply below_drew1) | exact HB.out)⟩⟩
    case round =>
     clear H'
     try clear c1
     try clear p2
     try clear p6
     try clear c7
     try clear c8
     try clear c9
     try clear c9b0
     try clear c9b1
     try clear c10
     try clear c10b0
     try clear c10b1
     try clear c11
     try clear c11b0
     try clear c12
     try clear c12b0
     try clear c13
     try clear c13b0
     try clear c14
     try clear p2
     try clear p6
     obtain ⟨x10_2, x11_2, rfl, rfl, HA, HK2, HB⟩ := hrel
     cases gk with
     | zero => exact absurd HA.out (by simp [l5_NumberShift.l0])
     | succ k2 =>
      have H := HA.out
      clear HA
      simp only [l5_NumberShift.l0] at H
      by_cases c15 : x11_2 < (l0.length : Int)
      ·rw [if_pos c15] at H
       have c15b0 : decide (x11_2 < (l0.length : Int)) = true := decide_eq_true c15
       clear c15
       by_cases c16 : 0 ≤ x11_2
       ·rw [if_pos c16] at H
        have c16b0 : decide (0 ≤ x11_2) = true := decide_eq_true c16
        clear c16
        obtain ⟨ji17, hji17⟩ : ∃ j_ : Int, (Int.tmod (Go.bits .and .i64 (rd l0 x11_2) 1023) 10) = j_ := ⟨_, rfl⟩
        replace H : (if 0 ≤ (ji17) then (if (ji17) ≤ (wrap64 ((ji17) + 1)) then (if (wrap64 ((ji17) + 1)) ≤ 10 then (if x10_2.size + ((⟨#[48, 49, 50, 51, 52, 53, 54, 55, 56, 57]⟩ : ByteArray).extract ((ji17) : Int).toNat ((wrap64 ((ji17) + 1)) : Int).toNat).size ≤ 9223372036854775807 then (l5_NumberShift.l0 k2 l0 a1 a2 a3 (x10_2 ++ ((⟨#[48, 49, 50, 51, 52, 53, 54, 55, 56, 57]⟩ : ByteArray).extract ((ji17) : Int).toNat ((wrap64 ((ji17) + 1)) : Int).toNat)) (wrap64 (x11_2 + 1))) else (none)) else (none)) else (none)) else (none)) = some r := by first | (rw [hji17] at H; exact H) | (simp only [hji17] at H ⊢; exact H)
        by_cases c18 : 0 ≤ (ji17)
        ·rw [if_pos c18] at H
         have c18b0 := eq_true c18
         have c18b1 : decide (0 ≤ (ji17)) = true := decide_eq_true c18
         clear c18
         by_cases c19 : (ji17) ≤ (wrap64 ((ji17) + 1))
         ·rw [if_pos c19] at H
          have c19b0 := eq_true c19
          have c19b1 : decide ((ji17) ≤ (wrap64 ((ji17) + 1))) = true := decide_eq_true c19
          by_cases c20 : (wrap64 ((ji17) + 1)) ≤ 10
          ·rw [if_pos c20] at H
           have c20b0 := eq_true c20
           have c20b1 : decide ((wrap64 ((ji17) + 1)) ≤ 10) = true := decide_eq_true c20
           by_cases c21 : x10_2.size + ((⟨#[48, 49, 50, 51, 52, 53, 54, 55, 56, 57]⟩ : ByteArray).extract ((ji17) : Int).toNat ((wrap64 ((ji17) + 1)) : Int).toNat).size ≤ 9223372036854775807
           ·rw [if_pos c21] at H
            have c21b0 := eq_true c21
            have c21b1 : decide (x10_2.size + ((⟨#[48, 49, 50, 51, 52, 53, 54, 55, 56, 57]⟩ : ByteArray).extract ((ji17) : Int).toNat ((wrap64 ((ji17) + 1)) : Int).toNat).size ≤ 9223372036854775807) = true := decide_eq_true c21
            try have c21b2 : (9223372036854775807 < x10_2.size + ((⟨#[48, 49, 50, 51, 52, 53, 54, 55, 56, 57]⟩ : ByteArray).extract ((ji17) : Int).toNat ((wrap64 ((ji17) + 1)) : Int).toNat).size) = False := eq_false (Nat.not_lt.2 c21)
            (try (have c21b3 : (9223372036854775807 < x10_2.size + (((wrap64 ((ji17) + 1)) : Int).toNat - ji17.toNat)) = False := eq_false (Nat.not_lt.2 (by have h_ := c21; have e0_ : (⟨#[48, 49, 50, 51, 52, 53, 54, 55, 56, 57]⟩ : ByteArray).size = 10 := rfl; (try simp only [ByteArray.size_append, ByteArray.size_extract, e0_] at h_); (try simp only [decide_eq_true_eq] at *); omega))))
            have H' := Aside0.mk H
            clear H
            have p236 : 0 ≤ (x11_2 : Int) := of_decide_eq_true (by first | (with_reducible assumption) | assumption)
            have q236 : x11_2 < (l0.length : Int) := of_decide_eq_true (by first | (with_reducible assumption) | assumption)
            obtain ⟨ad236, e236, hx236_0⟩ := Kd.at_int HR0.out x11_2 p236 q236
            cases e236
            replace hx236_0 := (HB.out.cell (World.block_lt_of_cell? w _ hx236_0)).trans hx236_0
            replace p236 := eq_true p236
            replace q236 := eq_true q236
            go_wp2
            go_roundg k2
            case measure => have := HJ5.out; have := HK2.out; omega
            case rel => exact ⟨(x10_2 ++ ((⟨#[48, 49, 50, 51, 52, 53, 54, 55, 56, 57]⟩ : ByteArray).extract ((ji17) : Int).toNat ((wrap64 ((ji17) + 1)) : Int).toNat)), (wrap64 (x11_2 + 1)), (by first | rfl | (simp; done) | (simp only [← hji17] <;> (first | rfl | simp)) | (simp [*]; done)), (by first | rfl | (simp; done) | (simp [bne_nil_]; done) | (simp [*]; done) | (simp [wrap64]; done) | (refine congrArg (Value.int .i64) ?_; unfold wrap64; omega)), H', ⟨by have := HJ5.out; have := HK2.out; omega⟩, ⟨by repeat (first | (with_reducible first | exact HB.out | apply below_alloc | apply pw_below_drewN | apply below_drew1) | exact HB.out)⟩⟩
           ·rw [if_neg c21] at H
            exact absurd H (by simp)
          ·rw [if_neg c20] at H
           exact absurd H (by simp)
         ·rw [if_neg c19] at H
          exact absurd H (by simp)
        ·rw [if_neg c18] at H
         exact absurd H (by simp)
       ·rw [if_neg c16] at H
        exact absurd H (by simp)
      ·rw [if_neg c15] at H
       have c15b0 : decide (x11_2 < (l0.length : Int)) = false := decide_eq_false c15
       clear c15
       have HC22 := Aside0.mk H
       clear H
       go_upto_if 71 with (fail)
       go_cut [13] (fun v13 wc => ∃ (kq : Nat) (x13_21 : ByteArray), v13 = .string x13_21 ∧ Aside0 (l5_NumberShift.j2 kq a1 a2 a3 x10_2 x13_21 = some r) ∧ Aside0 (kq ≤ k2) ∧ Aside0 (Below w.heap.size w wc))
       case first =>
        have H := HC22.out
        clear HC22
        by_cases c23 : a3 = true
        ·subst c23
         have H1 : (l5_NumberShift.j2 k2 a1 a2 true x10_2 (⟨#[45]⟩ : ByteArray)) = some r := by rw [if_pos rfl] at H; exact H
         clear H
         have H := H1
         clear H1
         have H' := Aside0.mk H
         clear H
         go_wp2
         go_meet
         case rel => exact ⟨_, ((⟨#[45]⟩ : ByteArray)), (by first | rfl | (simp; done) | (simp [bne_nil_]; done) | (simp [*]; done) | (simp [wrap64]; done) | (refine congrArg (Value.int .i64) ?_; unfold wrap64; omega)), H', ⟨by have := HJ5.out; have := HK2.out; first | omega | exact Nat.le_refl _⟩, ⟨by repeat (first | (with_reducible first | exact HB.out | apply below_alloc | apply pw_below_drewN | apply below_drew1) | exact HB.out)⟩⟩
        ·replace c23 := Bool.eq_false_iff.mpr c23
         subst c23
         have H1 : (l5_NumberShift.j2 k2 a1 a2 false x10_2 (⟨#[]⟩ : ByteArray)) = some r := by rw [if_neg (show ¬ (false = true) by decide)] at H; exact H
         clear H
         have H := H1
         clear H1
         have H' := Aside0.mk H
         clear H
         go_wp2
         go_meet
         case rel => exact ⟨_, ((⟨#[]⟩ : ByteArray)), (by first | rfl | (simp; done) | (simp [bne_nil_]; done) | (simp [*]; done) | (simp [wrap64]; done) | (refine congrArg (Value.int .i64) ?_; unfold wrap64; omega)), H', ⟨by have := HJ5.out; have := HK2.out; first | omega | exact Nat.le_refl _⟩, ⟨by repeat (first | (with_reducible first | exact HB.out | apply below_alloc | apply pw_below_drewN | apply below_drew1) | exact HB.out)⟩⟩
       case rest =>
        clear HC22
        try clear c1
        try clear c2
        try clear p2
        try clear q2
        try clear hx2
        try clear p6
        try clear c7
        try clear c8
        try clear c9
        try clear c9b0
        try clear c9b1
        try clear c10
        try clear c10b0
        try clear c10b1
        try clear c11
        try clear c11b0
        try clear c12
        try clear c12b0
        try clear c13
        try clear c13b0
        try clear c14
        try clear c15
        try clear c15b0
        try clear c16
        try clear c16b0
        try clear c18
        try clear c18b0
        try clear c18b1
        try clear c19
        try clear c19b0
        try clear c19b1
        try clear c20
        try clear c20b0
        try clear c20b1
        try clear c21
        try clear c21b0
        try clear c21b1
        try clear c21b2
        try clear c23
        try clear p23
        try clear q23
        try clear hx23
        try clear hx236_0
        try clear p2
        try clear p236
        try clear p6
        try clear q236
        obtain ⟨kq, x13_21, rfl, HA, HJ21, HB⟩ := hcut
        cases kq with
        | zero => exact absurd HA.out (by simp [l5_NumberShift.j2])
        | succ kj21 =>
         have H := HA.out
         clear HA
         simp only [l5_NumberShift.j2] at H
         by_cases c24 : 0 ≤ a2
         ·rw [if_pos c24] at H
          have c24b0 := eq_true c24
          have c24b1 : decide (0 ≤ a2) = true := decide_eq_true c24
          clear c24
          by_cases c25 : a2 ≤ 30
          ·rw [if_pos c25] at H
           have c25b0 := eq_true c25
           have c25b1 : decide (a2 ≤ 30) = true := decide_eq_true c25
           clear c25
           by_cases c26 : x13_21.size + x10_2.size ≤ 9223372036854775807
           ·rw [if_pos c26] at H
            have c26b0 := eq_true c26
            have c26b1 : decide (x13_21.size + x10_2.size ≤ 9223372036854775807) = true := decide_eq_true c26
            try have c26b2 : (9223372036854775807 < x13_21.size + x10_2.size) = False := eq_false (Nat.not_lt.2 c26)
            by_cases c27 : (x13_21 ++ x10_2).size + 1 ≤ 9223372036854775807
            ·rw [if_pos c27] at H
             have c27b0 := eq_true c27
             have c27b1 : decide ((x13_21 ++ x10_2).size + 1 ≤ 9223372036854775807) = true := decide_eq_true c27
             try have c27b2 : (9223372036854775807 < (x13_21 ++ x10_2).size + 1) = False := eq_false (Nat.not_lt.2 c27)
             (try (have c27b3 : (9223372036854775807 < x13_21.size + x10_2.size + 1) = False := eq_false (Nat.not_lt.2 (by have h_ := c27; (try simp only [ByteArray.size_append, ByteArray.size_extract] at h_); (try simp only [decide_eq_true_eq] at *); omega))))
             replace H := Option.bind_eq_some_iff.mp H
             obtain ⟨t237, A280, H⟩ := H
             replace H : (if ((x13_21 ++ x10_2) ++ (⟨#[101]⟩ : ByteArray)).size + t237.size ≤ 9223372036854775807 then ((number_Read.f kj21 (((x13_21 ++ x10_2) ++ (⟨#[101]⟩ : ByteArray)) ++ t237)).bind fun bt238 => (if (x13_21 ++ x10_2).size + ((⟨#[48, 48, 48, 48, 48, 48, 48, 48, 48, 48, 48, 48, 48, 48, 48, 48, 48, 48, 48, 48, 48, 48, 48, 48, 48, 48, 48, 48, 48, 48]⟩ : ByteArray).extract 0 (a2 : Int).toNat).size ≤ 9223372036854775807 then (if ((x13_21 ++ x10_2) ++ ((⟨#[48, 48, 48, 48, 48, 48, 48, 48, 48, 48, 48, 48, 48, 48, 48, 48, 48, 48, 48, 48, 48, 48, 48, 48, 48, 48, 48, 48, 48, 48]⟩ : ByteArray).extract 0 (a2 : Int).toNat)).size + 1 ≤ 9223372036854775807 then ((r1_Dec.f kj21 (wrap64 (a1 - a2))).bind fun t243 => (if (((x13_21 ++ x10_2) ++ ((⟨#[48, 48, 48, 48, 48, 48, 48, 48, 48, 48, 48, 48, 48, 48, 48, 48, 48, 48, 48, 48, 48, 48, 48, 48, 48, 48, 48, 48, 48, 48]⟩ : ByteArray).extract 0 (a2 : Int).toNat)) ++ (⟨#[69]⟩ : ByteArray)).size + t243.size ≤ 9223372036854775807 then ((number_Read.f kj21 ((((x13_21 ++ x10_2) ++ ((⟨#[48, 48, 48, 48, 48, 48, 48, 48, 48, 48, 48, 48, 48, 48, 48, 48, 48, 48, 48, 48, 48, 48, 48, 48, 48, 48, 48, 48, 48, 48]⟩ : ByteArray).extract 0 (a2 : Int).toNat)) ++ (⟨#[69]⟩ : ByteArray)) ++ t243)).bind fun bt244 => (if x13_21.size + 2 ≤ 9223372036854775807 then (if (x13_21 ++ (⟨#[48, 48]⟩ : ByteArray)).size + x10_2.size ≤ 9223372036854775807 then (if ((x13_21 ++ (⟨#[48, 48]⟩ : ByteArray)) ++ x10_2).size + 1 ≤ 9223372036854775807 then (if (((x13_21 ++ (⟨#[48, 48]⟩ : ByteArray)) ++ x10_2) ++ (⟨#[46]⟩ : ByteArray)).size + ((⟨#[48, 48, 48, 48, 48, 48, 48, 48, 48, 48, 48, 48, 48, 48, 48, 48, 48, 48, 48, 48, 48, 48, 48, 48, 48, 48, 48, 48, 48, 48]⟩ : ByteArray).extract 0 (a2 : Int).toNat).size ≤ 9223372036854775807 then (if ((((x13_21 ++ (⟨#[48, 48]⟩ : ByteArray)) ++ x10_2) ++ (⟨#[46]⟩ : ByteArray)) ++ ((⟨#[48, 48, 48, 48, 48, 48, 48, 48, 48, 48, 48, 48, 48, 48, 48, 48, 48, 48, 48, 48, 48, 48, 48, 48, 48, 48, 48, 48, 48, 48]⟩ : ByteArray).extract 0 (a2 : Int).toNat)).size + 2 ≤ 9223372036854775807 then ((r1_Dec.f kj21 a1).bind fun t249 => (if (((((x13_21 ++ (⟨#[48, 48]⟩ : ByteArray)) ++ x10_2) ++ (⟨#[46]⟩ : ByteArray)) ++ ((⟨#[48, 48, 48, 48, 48, 48, 48, 48, 48, 48, 48, 48, 48, 48, 48, 48, 48, 48, 48, 48, 48, 48, 48, 48, 48, 48, 48, 48, 48, 48]⟩ : ByteArray).extract 0 (a2 : Int).toNat)) ++ (⟨#[48, 101]⟩ : ByteArray)).size + t249.size ≤ 9223372036854775807 then ((number_Read.f kj21 ((((((x13_21 ++ (⟨#[48, 48]⟩ : ByteArray)) ++ x10_2) ++ (⟨#[46]⟩ : ByteArray)) ++ ((⟨#[48, 48, 48, 48, 48, 48, 48, 48, 48, 48, 48, 48, 48, 48, 48, 48, 48, 48, 48, 48, 48, 48, 48, 48, 48, 48, 48, 48, 48, 48]⟩ : ByteArray).extract 0 (a2 : Int).toNat)) ++ (⟨#[48, 101]⟩ : ByteArray)) ++ t249)).bind fun bt250 => (if x13_21.size + 1 ≤ 9223372036854775807 then (if (x13_21 ++ (⟨#[46]⟩ : ByteArray)).size + ((⟨#[48, 48, 48, 48, 48, 48, 48, 48, 48, 48, 48, 48, 48, 48, 48, 48, 48, 48, 48, 48, 48, 48, 48, 48, 48, 48, 48, 48, 48, 48]⟩ : ByteArray).extract 0 (a2 : Int).toNat).size ≤ 9223372036854775807 then (if ((x13_21 ++ (⟨#[46]⟩ : ByteArray)) ++ ((⟨#[48, 48, 48, 48, 48, 48, 48, 48, 48, 48, 48, 48, 48, 48, 48, 48, 48, 48, 48, 48, 48, 48, 48, 48, 48, 48, 48, 48, 48, 48]⟩ : ByteArray).extract 0 (a2 : Int).toNat)).size + x10_2.size ≤ 9223372036854775807 then (if (((x13_21 ++ (⟨#[46]⟩ : ByteArray)) ++ ((⟨#[48, 48, 48, 48, 48, 48, 48, 48, 48, 48, 48, 48, 48, 48, 48, 48, 48, 48, 48, 48, 48, 48, 48, 48, 48, 48, 48, 48, 48, 48]⟩ : ByteArray).extract 0 (a2 : Int).toNat)) ++ x10_2).size + 1 ≤ 9223372036854775807 then ((r1_Dec.f kj21 (wrap64 ((wrap64 (a1 + a2)) + (x10_2.size : Int)))).bind fun t255 => (if ((((x13_21 ++ (⟨#[46]⟩ : ByteArray)) ++ ((⟨#[48, 48, 48, 48, 48, 48, 48, 48, 48, 48, 48, 48, 48, 48, 48, 48, 48, 48, 48, 48, 48, 48, 48, 48, 48, 48, 48, 48, 48, 48]⟩ : ByteArray).extract 0 (a2 : Int).toNat)) ++ x10_2) ++ (⟨#[101]⟩ : ByteArray)).size + t255.size ≤ 9223372036854775807 then ((number_Read.f kj21 (((((x13_21 ++ (⟨#[46]⟩ : ByteArray)) ++ ((⟨#[48, 48, 48, 48, 48, 48, 48, 48, 48, 48, 48, 48, 48, 48, 48, 48, 48, 48, 48, 48, 48, 48, 48, 48, 48, 48, 48, 48, 48, 48]⟩ : ByteArray).extract 0 (a2 : Int).toNat)) ++ x10_2) ++ (⟨#[101]⟩ : ByteArray)) ++ t255)).bind fun bt256 => (if bt238.2.2.2 = true then (if bt244.2.2.2 = true then (if bt250.2.2.2 = true then (if bt256.2.2.2 = true then (if (bt238.1 == bt244.1 && (bt238.2.1.toList == bt244.2.1.toList && (bt238.2.2.1.toList == bt244.2.2.1.toList))) = true then (if (bt238.1 == bt250.1 && (bt238.2.1.toList == bt250.2.1.toList && (bt238.2.2.1.toList == bt250.2.2.1.toList))) = true then (if (bt238.1 == bt256.1 && (bt238.2.1.toList == bt256.2.1.toList && (bt238.2.2.1.toList == bt256.2.2.1.toList))) = true then (some (bt238.1 == a3)) else (some false)) else (some false)) else (some false)) else (some false)) else (some false)) else (some false)) else (some false))) else (none))) else (none)) else (none)) else (none)) else (none))) else (none))) else (none)) else (none)) else (none)) else (none)) else (none))) else (none))) else (none)) else (none))) else (none)) = some r := H
             have A28 := Aside0.mk A280
             clear A280
             by_cases c29 : ((x13_21 ++ x10_2) ++ (⟨#[101]⟩ : ByteArray)).size + t237.size ≤ 9223372036854775807
             ·rw [if_pos c29] at H
              have c29b0 := eq_true c29
              have c29b1 : decide (((x13_21 ++ x10_2) ++ (⟨#[101]⟩ : ByteArray)).size + t237.size ≤ 9223372036854775807) = true := decide_eq_true c29
              try have c29b2 : (9223372036854775807 < ((x13_21 ++ x10_2) ++ (⟨#[101]⟩ : ByteArray)).size + t237.size) = False := eq_false (Nat.not_lt.2 c29)
              (try (have c29b3 : (9223372036854775807 < x13_21.size + x10_2.size + 1 + t237.size) = False := eq_false (Nat.not_lt.2 (by have h_ := c29; have e0_ : (⟨#[101]⟩ : ByteArray).size = 1 := rfl; (try simp only [ByteArray.size_append, ByteArray.size_extract, e0_] at h_); (try simp only [decide_eq_true_eq] at *); omega))))
              replace H := Option.bind_eq_some_iff.mp H
              obtain ⟨⟨t238, t239, t240, t241⟩, A300, H⟩ := H
              replace H : (if (x13_21 ++ x10_2).size + ((⟨#[48, 48, 48, 48, 48, 48, 48, 48, 48, 48, 48, 48, 48, 48, 48, 48, 48, 48, 48, 48, 48, 48, 48, 48, 48, 48, 48, 48, 48, 48]⟩ : ByteArray).extract 0 (a2 : Int).toNat).size ≤ 9223372036854775807 then (if ((x13_21 ++ x10_2) ++ ((⟨#[48, 48, 48, 48, 48, 48, 48, 48, 48, 48, 48, 48, 48, 48, 48, 48, 48, 48, 48, 48, 48, 48, 48, 48, 48, 48, 48, 48, 48, 48]⟩ : ByteArray).extract 0 (a2 : Int).toNat)).size + 1 ≤ 9223372036854775807 then ((r1_Dec.f kj21 (wrap64 (a1 - a2))).bind fun t243 => (if (((x13_21 ++ x10_2) ++ ((⟨#[48, 48, 48, 48, 48, 48, 48, 48, 48, 48, 48, 48, 48, 48, 48, 48, 48, 48, 48, 48, 48, 48, 48, 48, 48, 48, 48, 48, 48, 48]⟩ : ByteArray).extract 0 (a2 : Int).toNat)) ++ (⟨#[69]⟩ : ByteArray)).size + t243.size ≤ 9223372036854775807 then ((number_Read.f kj21 ((((x13_21 ++ x10_2) ++ ((⟨#[48, 48, 48, 48, 48, 48, 48, 48, 48, 48, 48, 48, 48, 48, 48, 48, 48, 48, 48, 48, 48, 48, 48, 48, 48, 48, 48, 48, 48, 48]⟩ : ByteArray).extract 0 (a2 : Int).toNat)) ++ (⟨#[69]⟩ : ByteArray)) ++ t243)).bind fun bt244 => (if x13_21.size + 2 ≤ 9223372036854775807 then (if (x13_21 ++ (⟨#[48, 48]⟩ : ByteArray)).size + x10_2.size ≤ 9223372036854775807 then (if ((x13_21 ++ (⟨#[48, 48]⟩ : ByteArray)) ++ x10_2).size + 1 ≤ 9223372036854775807 then (if (((x13_21 ++ (⟨#[48, 48]⟩ : ByteArray)) ++ x10_2) ++ (⟨#[46]⟩ : ByteArray)).size + ((⟨#[48, 48, 48, 48, 48, 48, 48, 48, 48, 48, 48, 48, 48, 48, 48, 48, 48, 48, 48, 48, 48, 48, 48, 48, 48, 48, 48, 48, 48, 48]⟩ : ByteArray).extract 0 (a2 : Int).toNat).size ≤ 9223372036854775807 then (if ((((x13_21 ++ (⟨#[48, 48]⟩ : ByteArray)) ++ x10_2) ++ (⟨#[46]⟩ : ByteArray)) ++ ((⟨#[48, 48, 48, 48, 48, 48, 48, 48, 48, 48, 48, 48, 48, 48, 48, 48, 48, 48, 48, 48, 48, 48, 48, 48, 48, 48, 48, 48, 48, 48]⟩ : ByteArray).extract 0 (a2 : Int).toNat)).size + 2 ≤ 9223372036854775807 then ((r1_Dec.f kj21 a1).bind fun t249 => (if (((((x13_21 ++ (⟨#[48, 48]⟩ : ByteArray)) ++ x10_2) ++ (⟨#[46]⟩ : ByteArray)) ++ ((⟨#[48, 48, 48, 48, 48, 48, 48, 48, 48, 48, 48, 48, 48, 48, 48, 48, 48, 48, 48, 48, 48, 48, 48, 48, 48, 48, 48, 48, 48, 48]⟩ : ByteArray).extract 0 (a2 : Int).toNat)) ++ (⟨#[48, 101]⟩ : ByteArray)).size + t249.size ≤ 9223372036854775807 then ((number_Read.f kj21 ((((((x13_21 ++ (⟨#[48, 48]⟩ : ByteArray)) ++ x10_2) ++ (⟨#[46]⟩ : ByteArray)) ++ ((⟨#[48, 48, 48, 48, 48, 48, 48, 48, 48, 48, 48, 48, 48, 48, 48, 48, 48, 48, 48, 48, 48, 48, 48, 48, 48, 48, 48, 48, 48, 48]⟩ : ByteArray).extract 0 (a2 : Int).toNat)) ++ (⟨#[48, 101]⟩ : ByteArray)) ++ t249)).bind fun bt250 => (if x13_21.size + 1 ≤ 9223372036854775807 then (if (x13_21 ++ (⟨#[46]⟩ : ByteArray)).size + ((⟨#[48, 48, 48, 48, 48, 48, 48, 48, 48, 48, 48, 48, 48, 48, 48, 48, 48, 48, 48, 48, 48, 48, 48, 48, 48, 48, 48, 48, 48, 48]⟩ : ByteArray).extract 0 (a2 : Int).toNat).size ≤ 9223372036854775807 then (if ((x13_21 ++ (⟨#[46]⟩ : ByteArray)) ++ ((⟨#[48, 48, 48, 48, 48, 48, 48, 48, 48, 48, 48, 48, 48, 48, 48, 48, 48, 48, 48, 48, 48, 48, 48, 48, 48, 48, 48, 48, 48, 48]⟩ : ByteArray).extract 0 (a2 : Int).toNat)).size + x10_2.size ≤ 9223372036854775807 then (if (((x13_21 ++ (⟨#[46]⟩ : ByteArray)) ++ ((⟨#[48, 48, 48, 48, 48, 48, 48, 48, 48, 48, 48, 48, 48, 48, 48, 48, 48, 48, 48, 48, 48, 48, 48, 48, 48, 48, 48, 48, 48, 48]⟩ : ByteArray).extract 0 (a2 : Int).toNat)) ++ x10_2).size + 1 ≤ 9223372036854775807 then ((r1_Dec.f kj21 (wrap64 ((wrap64 (a1 + a2)) + (x10_2.size : Int)))).bind fun t255 => (if ((((x13_21 ++ (⟨#[46]⟩ : ByteArray)) ++ ((⟨#[48, 48, 48, 48, 48, 48, 48, 48, 48, 48, 48, 48, 48, 48, 48, 48, 48, 48, 48, 48, 48, 48, 48, 48, 48, 48, 48, 48, 48, 48]⟩ : ByteArray).extract 0 (a2 : Int).toNat)) ++ x10_2) ++ (⟨#[101]⟩ : ByteArray)).size + t255.size ≤ 9223372036854775807 then ((number_Read.f kj21 (((((x13_21 ++ (⟨#[46]⟩ : ByteArray)) ++ ((⟨#[48, 48, 48, 48, 48, 48, 48, 48, 48, 48, 48, 48, 48, 48, 48, 48, 48, 48, 48, 48, 48, 48, 48, 48, 48, 48, 48, 48, 48, 48]⟩ : ByteArray).extract 0 (a2 : Int).toNat)) ++ x10_2) ++ (⟨#[101]⟩ : ByteArray)) ++ t255)).bind fun bt256 => (if t241 = true then (if bt244.2.2.2 = true then (if bt250.2.2.2 = true then (if bt256.2.2.2 = true then (if (t238 == bt244.1 && (t239.toList == bt244.2.1.toList && (t240.toList == bt244.2.2.1.toList))) = true then (if (t238 == bt250.1 && (t239.toList == bt250.2.1.toList && (t240.toList == bt250.2.2.1.toList))) = true then (if (t238 == bt256.1 && (t239.toList == bt256.2.1.toList && (t240.toList == bt256.2.2.1.toList))) = true then (some (t238 == a3)) else (some false)) else (some false)) else (some false)) else (some false)) else (some false)) else (some false)) else (some false))) else (none))) else (none)) else (none)) else (none)) else (none))) else (none))) else (none)) else (none)) else (none)) else (none)) else (none))) else (none))) else (none)) else (none)) = some r := H
              have A30 := Aside0.mk A300
              clear A300
              by_cases c31 : (x13_21 ++ x10_2).size + ((⟨#[48, 48, 48, 48, 48, 48, 48, 48, 48, 48, 48, 48, 48, 48, 48, 48, 48, 48, 48, 48, 48, 48, 48, 48, 48, 48, 48, 48, 48, 48]⟩ : ByteArray).extract 0 (a2 : Int).toNat).size ≤ 9223372036854775807
              ·rw [if_pos c31] at H
               have c31b0 := eq_true c31
               have c31b1 : decide ((x13_21 ++ x10_2).size + ((⟨#[48, 48, 48, 48, 48, 48, 48, 48, 48, 48, 48, 48, 48, 48, 48, 48, 48, 48, 48, 48, 48, 48, 48, 48, 48, 48, 48, 48, 48, 48]⟩ : ByteArray).extract 0 (a2 : Int).toNat).size ≤ 9223372036854775807) = true := decide_eq_true c31
               try have c31b2 : (9223372036854775807 < (x13_21 ++ x10_2).size + ((⟨#[48, 48, 48, 48, 48, 48, 48, 48, 48, 48, 48, 48, 48, 48, 48, 48, 48, 48, 48, 48, 48, 48, 48, 48, 48, 48, 48, 48, 48, 48]⟩ : ByteArray).extract 0 (a2 : Int).toNat).size) = False := eq_false (Nat.not_lt.2 c31)
               (try (have c31b3 : (9223372036854775807 < x13_21.size + x10_2.size + a2.toNat) = False := eq_false (Nat.not_lt.2 (by have h_ := c31; have e0_ : (⟨#[48, 48, 48, 48, 48, 48, 48, 48, 48, 48, 48, 48, 48, 48, 48, 48, 48, 48, 48, 48, 48, 48, 48, 48, 48, 48, 48, 48, 48, 48]⟩ : ByteArray).size = 30 := rfl; (try simp only [ByteArray.size_append, ByteArray.size_extract, e0_] at h_); (try simp only [decide_eq_true_eq] at *); omega))))
               by_cases c32 : ((x13_21 ++ x10_2) ++ ((⟨#[48, 48, 48, 48, 48, 48, 48, 48, 48, 48, 48, 48, 48, 48, 48, 48, 48, 48, 48, 48, 48, 48, 48, 48, 48, 48, 48, 48, 48, 48]⟩ : ByteArray).extract 0 (a2 : Int).toNat)).size + 1 ≤ 9223372036854775807
               ·rw [if_pos c32] at H
                have c32b0 := eq_true c32
                have c32b1 : decide (((x13_21 ++ x10_2) ++ ((⟨#[48, 48, 48, 48, 48, 48, 48, 48, 48, 48, 48, 48, 48, 48, 48, 48, 48, 48, 48, 48, 48, 48, 48, 48, 48, 48, 48, 48, 48, 48]⟩ : ByteArray).extract 0 (a2 : Int).toNat)).size + 1 ≤ 9223372036854775807) = true := decide_eq_true c32
                try have c32b2 : (9223372036854775807 < ((x13_21 ++ x10_2) ++ ((⟨#[48, 48, 48, 48, 48, 48, 48, 48, 48, 48, 48, 48, 48, 48, 48, 48, 48, 48, 48, 48, 48, 48, 48, 48, 48, 48, 48, 48, 48, 48]⟩ : ByteArray).extract 0 (a2 : Int).toNat)).size + 1) = False := eq_false (Nat.not_lt.2 c32)
                (try (have c32b3 : (9223372036854775807 < x13_21.size + x10_2.size + a2.toNat + 1) = False := eq_false (Nat.not_lt.2 (by have h_ := c32; have e0_ : (⟨#[48, 48, 48, 48, 48, 48, 48, 48, 48, 48, 48, 48, 48, 48, 48, 48, 48, 48, 48, 48, 48, 48, 48, 48, 48, 48, 48, 48, 48, 48]⟩ : ByteArray).size = 30 := rfl; (try simp only [ByteArray.size_append, ByteArray.size_extract, e0_] at h_); (try simp only [decide_eq_true_eq] at *); omega))))
                replace H := Option.bind_eq_some_iff.mp H
                obtain ⟨t243, A330, H⟩ := H
                replace H : (if (((x13_21 ++ x10_2) ++ ((⟨#[48, 48, 48, 48, 48, 48, 48, 48, 48, 48, 48, 48, 48, 48, 48, 48, 48, 48, 48, 48, 48, 48, 48, 48, 48, 48, 48, 48, 48, 48]⟩ : ByteArray).extract 0 (a2 : Int).toNat)) ++ (⟨#[69]⟩ : ByteArray)).size + t243.size ≤ 9223372036854775807 then ((number_Read.f kj21 ((((x13_21 ++ x10_2) ++ ((⟨#[48, 48, 48, 48, 48, 48, 48, 48, 48, 48, 48, 48, 48, 48, 48, 48, 48, 48, 48, 48, 48, 48, 48, 48, 48, 48, 48, 48, 48, 48]⟩ : ByteArray).extract 0 (a2 : Int).toNat)) ++ (⟨#[69]⟩ : ByteArray)) ++ t243)).bind fun bt244 => (if x13_21.size + 2 ≤ 9223372036854775807 then (if (x13_21 ++ (⟨#[48, 48]⟩ : ByteArray)).size + x10_2.size ≤ 9223372036854775807 then (if ((x13_21 ++ (⟨#[48, 48]⟩ : ByteArray)) ++ x10_2).size + 1 ≤ 9223372036854775807 then (if (((x13_21 ++ (⟨#[48, 48]⟩ : ByteArray)) ++ x10_2) ++ (⟨#[46]⟩ : ByteArray)).size + ((⟨#[48, 48, 48, 48, 48, 48, 48, 48, 48, 48, 48, 48, 48, 48, 48, 48, 48, 48, 48, 48, 48, 48, 48, 48, 48, 48, 48, 48, 48, 48]⟩ : ByteArray).extract 0 (a2 : Int).toNat).size ≤ 9223372036854775807 then (if ((((x13_21 ++ (⟨#[48, 48]⟩ : ByteArray)) ++ x10_2) ++ (⟨#[46]⟩ : ByteArray)) ++ ((⟨#[48, 48, 48, 48, 48, 48, 48, 48, 48, 48, 48, 48, 48, 48, 48, 48, 48, 48, 48, 48, 48, 48, 48, 48, 48, 48, 48, 48, 48, 48]⟩ : ByteArray).extract 0 (a2 : Int).toNat)).size + 2 ≤ 9223372036854775807 then ((r1_Dec.f kj21 a1).bind fun t249 => (if (((((x13_21 ++ (⟨#[48, 48]⟩ : ByteArray)) ++ x10_2) ++ (⟨#[46]⟩ : ByteArray)) ++ ((⟨#[48, 48, 48, 48, 48, 48, 48, 48, 48, 48, 48, 48, 48, 48, 48, 48, 48, 48, 48, 48, 48, 48, 48, 48, 48, 48, 48, 48, 48, 48]⟩ : ByteArray).extract 0 (a2 : Int).toNat)) ++ (⟨#[48, 101]⟩ : ByteArray)).size + t249.size ≤ 9223372036854775807 then ((number_Read.f kj21 ((((((x13_21 ++ (⟨#[48, 48]⟩ : ByteArray)) ++ x10_2) ++ (⟨#[46]⟩ : ByteArray)) ++ ((⟨#[48, 48, 48, 48, 48, 48, 48, 48, 48, 48, 48, 48, 48, 48, 48, 48, 48, 48, 48, 48, 48, 48, 48, 48, 48, 48, 48, 48, 48, 48]⟩ : ByteArray).extract 0 (a2 : Int).toNat)) ++ (⟨#[48, 101]⟩ : ByteArray)) ++ t249)).bind fun bt250 => (if x13_21.size + 1 ≤ 9223372036854775807 then (if (x13_21 ++ (⟨#[46]⟩ : ByteArray)).size + ((⟨#[48, 48, 48, 48, 48, 48, 48, 48, 48, 48, 48, 48, 48, 48, 48, 48, 48, 48, 48, 48, 48, 48, 48, 48, 48, 48, 48, 48, 48, 48]⟩ : ByteArray).extract 0 (a2 : Int).toNat).size ≤ 9223372036854775807 then (if ((x13_21 ++ (⟨#[46]⟩ : ByteArray)) ++ ((⟨#[48, 48, 48, 48, 48, 48, 48, 48, 48, 48, 48, 48, 48, 48, 48, 48, 48, 48, 48, 48, 48, 48, 48, 48, 48, 48, 48, 48, 48, 48]⟩ : ByteArray).extract 0 (a2 : Int).toNat)).size + x10_2.size ≤ 9223372036854775807 then (if (((x13_21 ++ (⟨#[46]⟩ : ByteArray)) ++ ((⟨#[48, 48, 48, 48, 48, 48, 48, 48, 48, 48, 48, 48, 48, 48, 48, 48, 48, 48, 48, 48, 48, 48, 48, 48, 48, 48, 48, 48, 48, 48]⟩ : ByteArray).extract 0 (a2 : Int).toNat)) ++ x10_2).size + 1 ≤ 9223372036854775807 then ((r1_Dec.f kj21 (wrap64 ((wrap64 (a1 + a2)) + (x10_2.size : Int)))).bind fun t255 => (if ((((x13_21 ++ (⟨#[46]⟩ : ByteArray)) ++ ((⟨#[48, 48, 48, 48, 48, 48, 48, 48, 48, 48, 48, 48, 48, 48, 48, 48, 48, 48, 48, 48, 48, 48, 48, 48, 48, 48, 48, 48, 48, 48]⟩ : ByteArray).extract 0 (a2 : Int).toNat)) ++ x10_2) ++ (⟨#[101]⟩ : ByteArray)).size + t255.size ≤ 9223372036854775807 then ((number_Read.f kj21 (((((x13_21 ++ (⟨#[46]⟩ : ByteArray)) ++ ((⟨#[48, 48, 48, 48, 48, 48, 48, 48, 48, 48, 48, 48, 48, 48, 48, 48, 48, 48, 48, 48, 48, 48, 48, 48, 48, 48, 48, 48, 48, 48]⟩ : ByteArray).extract 0 (a2 : Int).toNat)) ++ x10_2) ++ (⟨#[101]⟩ : ByteArray)) ++ t255)).bind fun bt256 => (if t241 = true then (if bt244.2.2.2 = true then (if bt250.2.2.2 = true then (if bt256.2.2.2 = true then (if (t238 == bt244.1 && (t239.toList == bt244.2.1.toList && (t240.toList == bt244.2.2.1.toList))) = true then (if (t238 == bt250.1 && (t239.toList == bt250.2.1.toList && (t240.toList == bt250.2.2.1.toList))) = true then (if (t238 == bt256.1 && (t239.toList == bt256.2.1.toList && (t240.toList == bt256.2.2.1.toList))) = true then (some (t238 == a3)) else (some false)) else (some false)) else (some false)) else (some false)) else (some false)) else (some false)) else (some false))) else (none))) else (none)) else (none)) else (none)) else (none))) else (none))) else (none)) else (none)) else (none)) else (none)) else (none))) else (none)) = some r := H
                have A33 := Aside0.mk A330
                clear A330
                by_cases c34 : (((x13_21 ++ x10_2) ++ ((⟨#[48, 48, 48, 48, 48, 48, 48, 48, 48, 48, 48, 48, 48, 48, 48, 48, 48, 48, 48, 48, 48, 48, 48, 48, 48, 48, 48, 48, 48, 48]⟩ : ByteArray).extract 0 (a2 : Int).toNat)) ++ (⟨#[69]⟩ : ByteArray)).size + t243.size ≤ 9223372036854775807
                ·rw [if_pos c34] at H
                 have c34b0 := eq_true c34
                 have c34b1 : decide ((((x13_21 ++ x10_2) ++ ((⟨#[48, 48, 48, 48, 48, 48, 48, 48, 48, 48, 48, 48, 48, 48, 48, 48, 48, 48, 48, 48, 48, 48, 48, 48, 48, 48, 48, 48, 48, 48]⟩ : ByteArray).extract 0 (a2 : Int).toNat)) ++ (⟨#[69]⟩ : ByteArray)).size + t243.size ≤ 9223372036854775807) = true := decide_eq_true c34
                 try have c34b2 : (9223372036854775807 < (((x13_21 ++ x10_2) ++ ((⟨#[48, 48, 48, 48, 48, 48, 48, 48, 48, 48, 48, 48, 48, 48, 48, 48, 48, 48, 48, 48, 48, 48, 48, 48, 48, 48, 48, 48, 48, 48]⟩ : ByteArray).extract 0 (a2 : Int).toNat)) ++ (⟨#[69]⟩ : ByteArray)).size + t243.size) = False := eq_false (Nat.not_lt.2 c34)
                 (try (have c34b3 : (9223372036854775807 < x13_21.size + x10_2.size + a2.toNat + 1 + t243.size) = False := eq_false (Nat.not_lt.2 (by have h_ := c34; have e0_ : (⟨#[48, 48, 48, 48, 48, 48, 48, 48, 48, 48, 48, 48, 48, 48, 48, 48, 48, 48, 48, 48, 48, 48, 48, 48, 48, 48, 48, 48, 48, 48]⟩ : ByteArray).size = 30 := rfl; have e1_ : (⟨#[69]⟩ : ByteArray).size = 1 := rfl; (try simp only [ByteArray.size_append, ByteArray.size_extract, e0_, e1_] at h_); (try simp only [decide_eq_true_eq] at *); omega))))
                 replace H := Option.bind_eq_some_iff.mp H
                 obtain ⟨⟨t244, t245, t246, t247⟩, A350, H⟩ := H
                 replace H : (if x13_21.size + 2 ≤ 9223372036854775807 then (if (x13_21 ++ (⟨#[48, 48]⟩ : ByteArray)).size + x10_2.size ≤ 9223372036854775807 then (if ((x13_21 ++ (⟨#[48, 48]⟩ : ByteArray)) ++ x10_2).size + 1 ≤ 9223372036854775807 then (if (((x13_21 ++ (⟨#[48, 48]⟩ : ByteArray)) ++ x10_2) ++ (⟨#[46]⟩ : ByteArray)).size + ((⟨#[48, 48, 48, 48, 48, 48, 48, 48, 48, 48, 48, 48, 48, 48, 48, 48, 48, 48, 48, 48, 48, 48, 48, 48, 48, 48, 48, 48, 48, 48]⟩ : ByteArray).extract 0 (a2 : Int).toNat).size ≤ 9223372036854775807 then (if ((((x13_21 ++ (⟨#[48, 48]⟩ : ByteArray)) ++ x10_2) ++ (⟨#[46]⟩ : ByteArray)) ++ ((⟨#[48, 48, 48, 48, 48, 48, 48, 48, 48, 48, 48, 48, 48, 48, 48, 48, 48, 48, 48, 48, 48, 48, 48, 48, 48, 48, 48, 48, 48, 48]⟩ : ByteArray).extract 0 (a2 : Int).toNat)).size + 2 ≤ 9223372036854775807 then ((r1_Dec.f kj21 a1).bind fun t249 => (if (((((x13_21 ++ (⟨#[48, 48]⟩ : ByteArray)) ++ x10_2) ++ (⟨#[46]⟩ : ByteArray)) ++ ((⟨#[48, 48, 48, 48, 48, 48, 48, 48, 48, 48, 48, 48, 48, 48, 48, 48, 48, 48, 48, 48, 48, 48, 48, 48, 48, 48, 48, 48, 48, 48]⟩ : ByteArray).extract 0 (a2 : Int).toNat)) ++ (⟨#[48, 101]⟩ : ByteArray)).size + t249.size ≤ 9223372036854775807 then ((number_Read.f kj21 ((((((x13_21 ++ (⟨#[48, 48]⟩ : ByteArray)) ++ x10_2) ++ (⟨#[46]⟩ : ByteArray)) ++ ((⟨#[48, 48, 48, 48, 48, 48, 48, 48, 48, 48, 48, 48, 48, 48, 48, 48, 48, 48, 48, 48, 48, 48, 48, 48, 48, 48, 48, 48, 48, 48]⟩ : ByteArray).extract 0 (a2 : Int).toNat)) ++ (⟨#[48, 101]⟩ : ByteArray)) ++ t249)).bind fun bt250 => (if x13_21.size + 1 ≤ 9223372036854775807 then (if (x13_21 ++ (⟨#[46]⟩ : ByteArray)).size + ((⟨#[48, 48, 48, 48, 48, 48, 48, 48, 48, 48, 48, 48, 48, 48, 48, 48, 48, 48, 48, 48, 48, 48, 48, 48, 48, 48, 48, 48, 48, 48]⟩ : ByteArray).extract 0 (a2 : Int).toNat).size ≤ 9223372036854775807 then (if ((x13_21 ++ (⟨#[46]⟩ : ByteArray)) ++ ((⟨#[48, 48, 48, 48, 48, 48, 48, 48, 48, 48, 48, 48, 48, 48, 48, 48, 48, 48, 48, 48, 48, 48, 48, 48, 48, 48, 48, 48, 48, 48]⟩ : ByteArray).extract 0 (a2 : Int).toNat)).size + x10_2.size ≤ 9223372036854775807 then (if (((x13_21 ++ (⟨#[46]⟩ : ByteArray)) ++ ((⟨#[48, 48, 48, 48, 48, 48, 48, 48, 48, 48, 48, 48, 48, 48, 48, 48, 48, 48, 48, 48, 48, 48, 48, 48, 48, 48, 48, 48, 48, 48]⟩ : ByteArray).extract 0 (a2 : Int).toNat)) ++ x10_2).size + 1 ≤ 9223372036854775807 then ((r1_Dec.f kj21 (wrap64 ((wrap64 (a1 + a2)) + (x10_2.size : Int)))).bind fun t255 => (if ((((x13_21 ++ (⟨#[46]⟩ : ByteArray)) ++ ((⟨#[48, 48, 48, 48, 48, 48, 48, 48, 48, 48, 48, 48, 48, 48, 48, 48, 48, 48, 48, 48, 48, 48, 48, 48, 48, 48, 48, 48, 48, 48]⟩ : ByteArray).extract 0 (a2 : Int).toNat)) ++ x10_2) ++ (⟨#[101]⟩ : ByteArray)).size + t255.size ≤ 9223372036854775807 then ((number_Read.f kj21 (((((x13_21 ++ (⟨#[46]⟩ : ByteArray)) ++ ((⟨#[48, 48, 48, 48, 48, 48, 48, 48, 48, 48, 48, 48, 48, 48, 48, 48, 48, 48, 48, 48, 48, 48, 48, 48, 48, 48, 48, 48, 48, 48]⟩ : ByteArray).extract 0 (a2 : Int).toNat)) ++ x10_2) ++ (⟨#[101]⟩ : ByteArray)) ++ t255)).bind fun bt256 => (if t241 = true then (if t247 = true then (if bt250.2.2.2 = true then (if bt256.2.2.2 = true then (if (t238 == t244 && (t239.toList == t245.toList && (t240.toList == t246.toList))) = true then (if (t238 == bt250.1 && (t239.toList == bt250.2.1.toList && (t240.toList == bt250.2.2.1.toList))) = true then (if (t238 == bt256.1 && (t239.toList == bt256.2.1.toList && (t240.toList == bt256.2.2.1.toList))) = true then (some (t238 == a3)) else (some false)) else (some false)) else (some false)) else (some false)) else (some false)) else (some false)) else (some false))) else (none))) else (none)) else (none)) else (none)) else (none))) else (none))) else (none)) else (none)) else (none)) else (none)) else (none)) = some r := H
                 have A35 := Aside0.mk A350
                 clear A350
                 by_cases c36 : x13_21.size + 2 ≤ 9223372036854775807
                 ·rw [if_pos c36] at H
                  have c36b0 := eq_true c36
                  have c36b1 : decide (x13_21.size + 2 ≤ 9223372036854775807) = true := decide_eq_true c36
                  try have c36b2 : (9223372036854775807 < x13_21.size + 2) = False := eq_false (Nat.not_lt.2 c36)
                  by_cases c37 : (x13_21 ++ (⟨#[48, 48]⟩ : ByteArray)).size + x10_2.size ≤ 9223372036854775807
                  ·rw [if_pos c37] at H
                   have c37b0 := eq_true c37
                   have c37b1 : decide ((x13_21 ++ (⟨#[48, 48]⟩ : ByteArray)).size + x10_2.size ≤ 9223372036854775807) = true := decide_eq_true c37
                   try have c37b2 : (9223372036854775807 < (x13_21 ++ (⟨#[48, 48]⟩ : ByteArray)).size + x10_2.size) = False := eq_false (Nat.not_lt.2 c37)
                   (try (have c37b3 : (9223372036854775807 < x13_21.size + 2 + x10_2.size) = False := eq_false (Nat.not_lt.2 (by have h_ := c37; have e0_ : (⟨#[48, 48]⟩ : ByteArray).size = 2 := rfl; (try simp only [ByteArray.size_append, ByteArray.size_extract, e0_] at h_); (try simp only [decide_eq_true_eq] at *); omega))))
                   by_cases c38 : ((x13_21 ++ (⟨#[48, 48]⟩ : ByteArray)) ++ x10_2).size + 1 ≤ 9223372036854775807
                   ·rw [if_pos c38] at H
                    have c38b0 := eq_true c38
                    have c38b1 : decide (((x13_21 ++ (⟨#[48, 48]⟩ : ByteArray)) ++ x10_2).size + 1 ≤ 9223372036854775807) = true := decide_eq_true c38
                    try have c38b2 : (9223372036854775807 < ((x13_21 ++ (⟨#[48, 48]⟩ : ByteArray)) ++ x10_2).size + 1) = False := eq_false (Nat.not_lt.2 c38)
                    (try (have c38b3 : (9223372036854775807 < x13_21.size + 2 + x10_2.size + 1) = False := eq_false (Nat.not_lt.2 (by have h_ := c38; have e0_ : (⟨#[48, 48]⟩ : ByteArray).size = 2 := rfl; (try simp only [ByteArray.size_append, ByteArray.size_extract, e0_] at h_); (try simp only [decide_eq_true_eq] at *); omega))))
                    by_cases c39 : (((x13_21 ++ (⟨#[48, 48]⟩ : ByteArray)) ++ x10_2) ++ (⟨#[46]⟩ : ByteArray)).size + ((⟨#[48, 48, 48, 48, 48, 48, 48, 48, 48, 48, 48, 48, 48, 48, 48, 48, 48, 48, 48, 48, 48, 48, 48, 48, 48, 48, 48, 48, 48, 48]⟩ : ByteArray).extract 0 (a2 : Int).toNat).size ≤ 9223372036854775807
                    ·rw [if_pos c39] at H
                     have c39b0 := eq_true c39
                     have c39b1 : decide ((((x13_21 ++ (⟨#[48, 48]⟩ : ByteArray)) ++ x10_2) ++ (⟨#[46]⟩ : ByteArray)).size + ((⟨#[48, 48, 48, 48, 48, 48, 48, 48, 48, 48, 48, 48, 48, 48, 48, 48, 48, 48, 48, 48, 48, 48, 48, 48, 48, 48, 48, 48, 48, 48]⟩ : ByteArray).extract 0 (a2 : Int).toNat).size ≤ 9223372036854775807) = true := decide_eq_true c39
                     try have c39b2 : (9223372036854775807 < (((x13_21 ++ (⟨#[48, 48]⟩ : ByteArray)) ++ x10_2) ++ (⟨#[46]⟩ : ByteArray)).size + ((⟨#[48, 48, 48, 48, 48, 48, 48, 48, 48, 48, 48, 48, 48, 48, 48, 48, 48, 48, 48, 48, 48, 48, 48, 48, 48, 48, 48, 48, 48, 48]⟩ : ByteArray).extract 0 (a2 : Int).toNat).size) = False := eq_false (Nat.not_lt.2 c39)
                     (try (have c39b3 : (9223372036854775807 < x13_21.size + 2 + x10_2.size + 1 + a2.toNat) = False := eq_false (Nat.not_lt.2 (by have h_ := c39; have e0_ : (⟨#[46]⟩ : ByteArray).size = 1 := rfl; have e1_ : (⟨#[48, 48, 48, 48, 48, 48, 48, 48, 48, 48, 48, 48, 48, 48, 48, 48, 48, 48, 48, 48, 48, 48, 48, 48, 48, 48, 48, 48, 48, 48]⟩ : ByteArray).size = 30 := rfl; have e2_ : (⟨#[48, 48]⟩ : ByteArray).size = 2 := rfl; (try simp only [ByteArray.size_append, ByteArray.size_extract, e0_, e1_, e2_] at h_); (try simp only [decide_eq_true_eq] at *); omega))))
                     by_cases c40 : ((((x13_21 ++ (⟨#[48, 48]⟩ : ByteArray)) ++ x10_2) ++ (⟨#[46]⟩ : ByteArray)) ++ ((⟨#[48, 48, 48, 48, 48, 48, 48, 48, 48, 48, 48, 48, 48, 48, 48, 48, 48, 48, 48, 48, 48, 48, 48, 48, 48, 48, 48, 48, 48, 48]⟩ : ByteArray).extract 0 (a2 : Int).toNat)).size + 2 ≤ 9223372036854775807
                     ·rw [if_pos c40] at H
                      have c40b0 := eq_true c40
                      have c40b1 : decide (((((x13_21 ++ (⟨#[48, 48]⟩ : ByteArray)) ++ x10_2) ++ (⟨#[46]⟩ : ByteArray)) ++ ((⟨#[48, 48, 48, 48, 48, 48, 48, 48, 48, 48, 48, 48, 48, 48, 48, 48, 48, 48, 48, 48, 48, 48, 48, 48, 48, 48, 48, 48, 48, 48]⟩ : ByteArray).extract 0 (a2 : Int).toNat)).size + 2 ≤ 9223372036854775807) = true := decide_eq_true c40
                      try have c40b2 : (9223372036854775807 < ((((x13_21 ++ (⟨#[48, 48]⟩ : ByteArray)) ++ x10_2) ++ (⟨#[46]⟩ : ByteArray)) ++ ((⟨#[48, 48, 48, 48, 48, 48, 48, 48, 48, 48, 48, 48, 48, 48, 48, 48, 48, 48, 48, 48, 48, 48, 48, 48, 48, 48, 48, 48, 48, 48]⟩ : ByteArray).extract 0 (a2 : Int).toNat)).size + 2) = False := eq_false (Nat.not_lt.2 c40)
                      (try (have c40b3 : (9223372036854775807 < x13_21.size + 2 + x10_2.size + 1 + a2.toNat + 2) = False := eq_false (Nat.not_lt.2 (by have h_ := c40; have e0_ : (⟨#[46]⟩ : ByteArray).size = 1 := rfl; have e1_ : (⟨#[48, 48, 48, 48, 48, 48, 48, 48, 48, 48, 48, 48, 48, 48, 48, 48, 48, 48, 48, 48, 48, 48, 48, 48, 48, 48, 48, 48, 48, 48]⟩ : ByteArray).size = 30 := rfl; have e2_ : (⟨#[48, 48]⟩ : ByteArray).size = 2 := rfl; (try simp only [ByteArray.size_append, ByteArray.size_extract, e0_, e1_, e2_] at h_); (try simp only [decide_eq_true_eq] at *); omega))))
                      replace H := Option.bind_eq_some_iff.mp H
                      obtain ⟨t249, A410, H⟩ := H
                      replace H : (if (((((x13_21 ++ (⟨#[48, 48]⟩ : ByteArray)) ++ x10_2) ++ (⟨#[46]⟩ : ByteArray)) ++ ((⟨#[48, 48, 48, 48, 48, 48, 48, 48, 48, 48, 48, 48, 48, 48, 48, 48, 48, 48, 48, 48, 48, 48, 48, 48, 48, 48, 48, 48, 48, 48]⟩ : ByteArray).extract 0 (a2 : Int).toNat)) ++ (⟨#[48, 101]⟩ : ByteArray)).size + t249.size ≤ 9223372036854775807 then ((number_Read.f kj21 ((((((x13_21 ++ (⟨#[48, 48]⟩ : ByteArray)) ++ x10_2) ++ (⟨#[46]⟩ : ByteArray)) ++ ((⟨#[48, 48, 48, 48, 48, 48, 48, 48, 48, 48, 48, 48, 48, 48, 48, 48, 48, 48, 48, 48, 48, 48, 48, 48, 48, 48, 48, 48, 48, 48]⟩ : ByteArray).extract 0 (a2 : Int).toNat)) ++ (⟨#[48, 101]⟩ : ByteArray)) ++ t249)).bind fun bt250 => (if x13_21.size + 1 ≤ 9223372036854775807 then (if (x13_21 ++ (⟨#[46]⟩ : ByteArray)).size + ((⟨#[48, 48, 48, 48, 48, 48, 48, 48, 48, 48, 48, 48, 48, 48, 48, 48, 48, 48, 48, 48, 48, 48, 48, 48, 48, 48, 48, 48, 48, 48]⟩ : ByteArray).extract 0 (a2 : Int).toNat).size ≤ 9223372036854775807 then (if ((x13_21 ++ (⟨#[46]⟩ : ByteArray)) ++ ((⟨#[48, 48, 48, 48, 48, 48, 48, 48, 48, 48, 48, 48, 48, 48, 48, 48, 48, 48, 48, 48, 48, 48, 48, 48, 48, 48, 48, 48, 48, 48]⟩ : ByteArray).extract 0 (a2 : Int).toNat)).size + x10_2.size ≤ 9223372036854775807 then (if (((x13_21 ++ (⟨#[46]⟩ : ByteArray)) ++ ((⟨#[48, 48, 48, 48, 48, 48, 48, 48, 48, 48, 48, 48, 48, 48, 48, 48, 48, 48, 48, 48, 48, 48, 48, 48, 48, 48, 48, 48, 48, 48]⟩ : ByteArray).extract 0 (a2 : Int).toNat)) ++ x10_2).size + 1 ≤ 9223372036854775807 then ((r1_Dec.f kj21 (wrap64 ((wrap64 (a1 + a2)) + (x10_2.size : Int)))).bind fun t255 => (if ((((x13_21 ++ (⟨#[46]⟩ : ByteArray)) ++ ((⟨#[48, 48, 48, 48, 48, 48, 48, 48, 48, 48, 48, 48, 48, 48, 48, 48, 48, 48, 48, 48, 48, 48, 48, 48, 48, 48, 48, 48, 48, 48]⟩ : ByteArray).extract 0 (a2 : Int).toNat)) ++ x10_2) ++ (⟨#[101]⟩ : ByteArray)).size + t255.size ≤ 9223372036854775807 then ((number_Read.f kj21 (((((x13_21 ++ (⟨#[46]⟩ : ByteArray)) ++ ((⟨#[48, 48, 48, 48, 48, 48, 48, 48, 48, 48, 48, 48, 48, 48, 48, 48, 48, 48, 48, 48, 48, 48, 48, 48, 48, 48, 48, 48, 48, 48]⟩ : ByteArray).extract 0 (a2 : Int).toNat)) ++ x10_2) ++ (⟨#[101]⟩ : ByteArray)) ++ t255)).bind fun bt256 => (if t241 = true then (if t247 = true then (if bt250.2.2.2 = true then (if bt256.2.2.2 = true then (if (t238 == t244 && (t239.toList == t245.toList && (t240.toList == t246.toList))) = true then (if (t238 == bt250.1 && (t239.toList == bt250.2.1.toList && (t240.toList == bt250.2.2.1.toList))) = true then (if (t238 == bt256.1 && (t239.toList == bt256.2.1.toList && (t240.toList == bt256.2.2.1.toList))) = true then (some (t238 == a3)) else (some false)) else (some false)) else (some false)) else (some false)) else (some false)) else (some false)) else (some false))) else (none))) else (none)) else (none)) else (none)) else (none))) else (none)) = some r := H
                      have A41 := Aside0.mk A410
                      clear A410
                      by_cases c42 : (((((x13_21 ++ (⟨#[48, 48]⟩ : ByteArray)) ++ x10_2) ++ (⟨#[46]⟩ : ByteArray)) ++ ((⟨#[48, 48, 48, 48, 48, 48, 48, 48, 48, 48, 48, 48, 48, 48, 48, 48, 48, 48, 48, 48, 48, 48, 48, 48, 48, 48, 48, 48, 48, 48]⟩ : ByteArray).extract 0 (a2 : Int).toNat)) ++ (⟨#[48, 101]⟩ : ByteArray)).size + t249.size ≤ 9223372036854775807
                      ·rw [if_pos c42] at H
                       have c42b0 := eq_true c42
                       have c42b1 : decide ((((((x13_21 ++ (⟨#[48, 48]⟩ : ByteArray)) ++ x10_2) ++ (⟨#[46]⟩ : ByteArray)) ++ ((⟨#[48, 48, 48, 48, 48, 48, 48, 48, 48, 48, 48, 48, 48, 48, 48, 48, 48, 48, 48, 48, 48, 48, 48, 48, 48, 48, 48, 48, 48, 48]⟩ : ByteArray).extract 0 (a2 : Int).toNat)) ++ (⟨#[48, 101]⟩ : ByteArray)).size + t249.size ≤ 9223372036854775807) = true := decide_eq_true c42
                       try have c42b2 : (9223372036854775807 < (((((x13_21 ++ (⟨#[48, 48]⟩ : ByteArray)) ++ x10_2) ++ (⟨#[46]⟩ : ByteArray)) ++ ((⟨#[48, 48, 48, 48, 48, 48, 48, 48, 48, 48, 48, 48, 48, 48, 48, 48, 48, 48, 48, 48, 48, 48, 48, 48, 48, 48, 48, 48, 48, 48]⟩ : ByteArray).extract 0 (a2 : Int).toNat)) ++ (⟨#[48, 101]⟩ : ByteArray)).size + t249.size) = False := eq_false (Nat.not_lt.2 c42)
                       (try (have c42b3 : (9223372036854775807 < x13_21.size + 2 + x10_2.size + 1 + a2.toNat + 2 + t249.size) = False := eq_false (Nat.not_lt.2 (by have h_ := c42; have e0_ : (⟨#[46]⟩ : ByteArray).size = 1 := rfl; have e1_ : (⟨#[48, 101]⟩ : ByteArray).size = 2 := rfl; have e2_ : (⟨#[48, 48, 48, 48, 48, 48, 48, 48, 48, 48, 48, 48, 48, 48, 48, 48, 48, 48, 48, 48, 48, 48, 48, 48, 48, 48, 48, 48, 48, 48]⟩ : ByteArray).size = 30 := rfl; have e3_ : (⟨#[48, 48]⟩ : ByteArray).size = 2 := rfl; (try simp only [ByteArray.size_append, ByteArray.size_extract, e0_, e1_, e2_, e3_] at h_); (try simp only [decide_eq_true_eq] at *); omega))))
                       replace H := Option.bind_eq_some_iff.mp H
                       obtain ⟨⟨t250, t251, t252, t253⟩, A430, H⟩ := H
                       replace H : (if x13_21.size + 1 ≤ 9223372036854775807 then (if (x13_21 ++ (⟨#[46]⟩ : ByteArray)).size + ((⟨#[48, 48, 48, 48, 48, 48, 48, 48, 48, 48, 48, 48, 48, 48, 48, 48, 48, 48, 48, 48, 48, 48, 48, 48, 48, 48, 48, 48, 48, 48]⟩ : ByteArray).extract 0 (a2 : Int).toNat).size ≤ 9223372036854775807 then (if ((x13_21 ++ (⟨#[46]⟩ : ByteArray)) ++ ((⟨#[48, 48, 48, 48, 48, 48, 48, 48, 48, 48, 48, 48, 48, 48, 48, 48, 48, 48, 48, 48, 48, 48, 48, 48, 48, 48, 48, 48, 48, 48]⟩ : ByteArray).extract 0 (a2 : Int).toNat)).size + x10_2.size ≤ 9223372036854775807 then (if (((x13_21 ++ (⟨#[46]⟩ : ByteArray)) ++ ((⟨#[48, 48, 48, 48, 48, 48, 48, 48, 48, 48, 48, 48, 48, 48, 48, 48, 48, 48, 48, 48, 48, 48, 48, 48, 48, 48, 48, 48, 48, 48]⟩ : ByteArray).extract 0 (a2 : Int).toNat)) ++ x10_2).size + 1 ≤ 9223372036854775807 then ((r1_Dec.f kj21 (wrap64 ((wrap64 (a1 + a2)) + (x10_2.size : Int)))).bind fun t255 => (if ((((x13_21 ++ (⟨#[46]⟩ : ByteArray)) ++ ((⟨#[48, 48, 48, 48, 48, 48, 48, 48, 48, 48, 48, 48, 48, 48, 48, 48, 48, 48, 48, 48, 48, 48, 48, 48, 48, 48, 48, 48, 48, 48]⟩ : ByteArray).extract 0 (a2 : Int).toNat)) ++ x10_2) ++ (⟨#[101]⟩ : ByteArray)).size + t255.size ≤ 9223372036854775807 then ((number_Read.f kj21 (((((x13_21 ++ (⟨#[46]⟩ : ByteArray)) ++ ((⟨#[48, 48, 48, 48, 48, 48, 48, 48, 48, 48, 48, 48, 48, 48, 48, 48, 48, 48, 48, 48, 48, 48, 48, 48, 48, 48, 48, 48, 48, 48]⟩ : ByteArray).extract 0 (a2 : Int).toNat)) ++ x10_2) ++ (⟨#[101]⟩ : ByteArray)) ++ t255)).bind fun bt256 => (if t241 = true then (if t247 = true then (if t253 = true then (if bt256.2.2.2 = true then (if (t238 == t244 && (t239.toList == t245.toList && (t240.toList == t246.toList))) = true then (if (t238 == t250 && (t239.toList == t251.toList && (t240.toList == t252.toList))) = true then (if (t238 == bt256.1 && (t239.toList == bt256.2.1.toList && (t240.toList == bt256.2.2.1.toList))) = true then (some (t238 == a3)) else (some false)) else (some false)) else (some false)) else (some false)) else (some false)) else (some false)) else (some false))) else (none))) else (none)) else (none)) else (none)) else (none)) = some r := H
                       have A43 := Aside0.mk A430
                       clear A430
                       by_cases c44 : x13_21.size + 1 ≤ 9223372036854775807
                       ·rw [if_pos c44] at H
                        have c44b0 := eq_true c44
                        have c44b1 : decide (x13_21.size + 1 ≤ 9223372036854775807) = true := decide_eq_true c44
                        try have c44b2 : (9223372036854775807 < x13_21.size + 1) = False := eq_false (Nat.not_lt.2 c44)
                        by_cases c45 : (x13_21 ++ (⟨#[46]⟩ : ByteArray)).size + ((⟨#[48, 48, 48, 48, 48, 48, 48, 48, 48, 48, 48, 48, 48, 48, 48, 48, 48, 48, 48, 48, 48, 48, 48, 48, 48, 48, 48, 48, 48, 48]⟩ : ByteArray).extract 0 (a2 : Int).toNat).size ≤ 9223372036854775807
                        ·rw [if_pos c45] at H
                         have c45b0 := eq_true c45
                         have c45b1 : decide ((x13_21 ++ (⟨#[46]⟩ : ByteArray)).size + ((⟨#[48, 48, 48, 48, 48, 48, 48, 48, 48, 48, 48, 48, 48, 48, 48, 48, 48, 48, 48, 48, 48, 48, 48, 48, 48, 48, 48, 48, 48, 48]⟩ : ByteArray).extract 0 (a2 : Int).toNat).size ≤ 9223372036854775807) = true := decide_eq_true c45
                         try have c45b2 : (9223372036854775807 < (x13_21 ++ (⟨#[46]⟩ : ByteArray)).size + ((⟨#[48, 48, 48, 48, 48, 48, 48, 48, 48, 48, 48, 48, 48, 48, 48, 48, 48, 48, 48, 48, 48, 48, 48, 48, 48, 48, 48, 48, 48, 48]⟩ : ByteArray).extract 0 (a2 : Int).toNat).size) = False := eq_false (Nat.not_lt.2 c45)
                         (try (have c45b3 : (9223372036854775807 < x13_21.size + 1 + a2.toNat) = False := eq_false (Nat.not_lt.2 (by have h_ := c45; have e0_ : (⟨#[46]⟩ : ByteArray).size = 1 := rfl; have e1_ : (⟨#[48, 48, 48, 48, 48, 48, 48, 48, 48, 48, 48, 48, 48, 48, 48, 48, 48, 48, 48, 48, 48, 48, 48, 48, 48, 48, 48, 48, 48, 48]⟩ : ByteArray).size = 30 := rfl; (try simp only [ByteArray.size_append, ByteArray.size_extract, e0_, e1_] at h_); (try simp only [decide_eq_true_eq] at *); omega))))
                         by_cases c46 : ((x13_21 ++ (⟨#[46]⟩ : ByteArray)) ++ ((⟨#[48, 48, 48, 48, 48, 48, 48, 48, 48, 48, 48, 48, 48, 48, 48, 48, 48, 48, 48, 48, 48, 48, 48, 48, 48, 48, 48, 48, 48, 48]⟩ : ByteArray).extract 0 (a2 : Int).toNat)).size + x10_2.size ≤ 9223372036854775807
                         ·rw [if_pos c46] at H
                          have c46b0 := eq_true c46
                          have c46b1 : decide (((x13_21 ++ (⟨#[46]⟩ : ByteArray)) ++ ((⟨#[48, 48, 48, 48, 48, 48, 48, 48, 48, 48, 48, 48, 48, 48, 48, 48, 48, 48, 48, 48, 48, 48, 48, 48, 48, 48, 48, 48, 48, 48]⟩ : ByteArray).extract 0 (a2 : Int).toNat)).size + x10_2.size ≤ 9223372036854775807) = true := decide_eq_true c46
                          try have c46b2 : (9223372036854775807 < ((x13_21 ++ (⟨#[46]⟩ : ByteArray)) ++ ((⟨#[48, 48, 48, 48, 48, 48, 48, 48, 48, 48, 48, 48, 48, 48, 48, 48, 48, 48, 48, 48, 48, 48, 48, 48, 48, 48, 48, 48, 48, 48]⟩ : ByteArray).extract 0 (a2 : Int).toNat)).size + x10_2.size) = False := eq_false (Nat.not_lt.2 c46)
                          (try (have c46b3 : (9223372036854775807 < x13_21.size + 1 + a2.toNat + x10_2.size) = False := eq_false (Nat.not_lt.2 (by have h_ := c46; have e0_ : (⟨#[46]⟩ : ByteArray).size = 1 := rfl; have e1_ : (⟨#[48, 48, 48, 48, 48, 48, 48, 48, 48, 48, 48, 48, 48, 48, 48, 48, 48, 48, 48, 48, 48, 48, 48, 48, 48, 48, 48, 48, 48, 48]⟩ : ByteArray).size = 30 := rfl; (try simp only [ByteArray.size_append, ByteArray.size_extract, e0_, e1_] at h_); (try simp only [decide_eq_true_eq] at *); omega))))
                          by_cases c47 : (((x13_21 ++ (⟨#[46]⟩ : ByteArray)) ++ ((⟨#[48, 48, 48, 48, 48, 48, 48, 48, 48, 48, 48, 48, 48, 48, 48, 48, 48, 48, 48, 48, 48, 48, 48, 48, 48, 48, 48, 48, 48, 48]⟩ : ByteArray).extract 0 (a2 : Int).toNat)) ++ x10_2).size + 1 ≤ 9223372036854775807
                          ·rw [if_pos c47] at H
                           have c47b0 := eq_true c47
                           have c47b1 : decide ((((x13_21 ++ (⟨#[46]⟩ : ByteArray)) ++ ((⟨#[48, 48, 48, 48, 48, 48, 48, 48, 48, 48, 48, 48, 48, 48, 48, 48, 48, 48, 48, 48, 48, 48, 48, 48, 48, 48, 48, 48, 48, 48]⟩ : ByteArray).extract 0 (a2 : Int).toNat)) ++ x10_2).size + 1 ≤ 9223372036854775807) = true := decide_eq_true c47
                           try have c47b2 : (9223372036854775807 < (((x13_21 ++ (⟨#[46]⟩ : ByteArray)) ++ ((⟨#[48, 48, 48, 48, 48, 48, 48, 48, 48, 48, 48, 48, 48, 48, 48, 48, 48, 48, 48, 48, 48, 48, 48, 48, 48, 48, 48, 48, 48, 48]⟩ : ByteArray).extract 0 (a2 : Int).toNat)) ++ x10_2).size + 1) = False := eq_false (Nat.not_lt.2 c47)
                           (try (have c47b3 : (9223372036854775807 < x13_21.size + 1 + a2.toNat + x10_2.size + 1) = False := eq_false (Nat.not_lt.2 (by have h_ := c47; have e0_ : (⟨#[46]⟩ : ByteArray).size = 1 := rfl; have e1_ : (⟨#[48, 48, 48, 48, 48, 48, 48, 48, 48, 48, 48, 48, 48, 48, 48, 48, 48, 48, 48, 48, 48, 48, 48, 48, 48, 48, 48, 48, 48, 48]⟩ : ByteArray).size = 30 := rfl; (try simp only [ByteArray.size_append, ByteArray.size_extract, e0_, e1_] at h_); (try simp only [decide_eq_true_eq] at *); omega))))
                           replace H := Option.bind_eq_some_iff.mp H
                           obtain ⟨t255, A480, H⟩ := H
                           replace H : (if ((((x13_21 ++ (⟨#[46]⟩ : ByteArray)) ++ ((⟨#[48, 48, 48, 48, 48, 48, 48, 48, 48, 48, 48, 48, 48, 48, 48, 48, 48, 48, 48, 48, 48, 48, 48, 48, 48, 48, 48, 48, 48, 48]⟩ : ByteArray).extract 0 (a2 : Int).toNat)) ++ x10_2) ++ (⟨#[101]⟩ : ByteArray)).size + t255.size ≤ 9223372036854775807 then ((number_Read.f kj21 (((((x13_21 ++ (⟨#[46]⟩ : ByteArray)) ++ ((⟨#[48, 48, 48, 48, 48, 48, 48, 48, 48, 48, 48, 48, 48, 48, 48, 48, 48, 48, 48, 48, 48, 48, 48, 48, 48, 48, 48, 48, 48, 48]⟩ : ByteArray).extract 0 (a2 : Int).toNat)) ++ x10_2) ++ (⟨#[101]⟩ : ByteArray)) ++ t255)).bind fun bt256 => (if t241 = true then (if t247 = true then (if t253 = true then (if bt256.2.2.2 = true then (if (t238 == t244 && (t239.toList == t245.toList && (t240.toList == t246.toList))) = true then (if (t238 == t250 && (t239.toList == t251.toList && (t240.toList == t252.toList))) = true then (if (t238 == bt256.1 && (t239.toList == bt256.2.1.toList && (t240.toList == bt256.2.2.1.toList))) = true then (some (t238 == a3)) else (some false)) else (some false)) else (some false)) else (some false)) else (some false)) else (some false)) else (some false))) else (none)) = some r := H
                           have A48 := Aside0.mk A480
                           clear A480
                           by_cases c49 : ((((x13_21 ++ (⟨#[46]⟩ : ByteArray)) ++ ((⟨#[48, 48, 48, 48, 48, 48, 48, 48, 48, 48, 48, 48, 48, 48, 48, 48, 48, 48, 48, 48, 48, 48, 48, 48, 48, 48, 48, 48, 48, 48]⟩ : ByteArray).extract 0 (a2 : Int).toNat)) ++ x10_2) ++ (⟨#[101]⟩ : ByteArray)).size + t255.size ≤ 9223372036854775807
                           ·rw [if_pos c49] at H
                            have c49b0 := eq_true c49
                            have c49b1 : decide (((((x13_21 ++ (⟨#[46]⟩ : ByteArray)) ++ ((⟨#[48, 48, 48, 48, 48, 48, 48, 48, 48, 48, 48, 48, 48, 48, 48, 48, 48, 48, 48, 48, 48, 48, 48, 48, 48, 48, 48, 48, 48, 48]⟩ : ByteArray).extract 0 (a2 : Int).toNat)) ++ x10_2) ++ (⟨#[101]⟩ : ByteArray)).size + t255.size ≤ 9223372036854775807) = true := decide_eq_true c49
                            try have c49b2 : (9223372036854775807 < ((((x13_21 ++ (⟨#[46]⟩ : ByteArray)) ++ ((⟨#[48, 48, 48, 48, 48, 48, 48, 48, 48, 48, 48, 48, 48, 48, 48, 48, 48, 48, 48, 48, 48, 48, 48, 48, 48, 48, 48, 48, 48, 48]⟩ : ByteArray).extract 0 (a2 : Int).toNat)) ++ x10_2) ++ (⟨#[101]⟩ : ByteArray)).size + t255.size) = False := eq_false (Nat.not_lt.2 c49)
                            (try (have c49b3 : (9223372036854775807 < x13_21.size + 1 + a2.toNat + x10_2.size + 1 + t255.size) = False := eq_false (Nat.not_lt.2 (by have h_ := c49; have e0_ : (⟨#[101]⟩ : ByteArray).size = 1 := rfl; have e1_ : (⟨#[46]⟩ : ByteArray).size = 1 := rfl; have e2_ : (⟨#[48, 48, 48, 48, 48, 48, 48, 48, 48, 48, 48, 48, 48, 48, 48, 48, 48, 48, 48, 48, 48, 48, 48, 48, 48, 48, 48, 48, 48, 48]⟩ : ByteArray).size = 30 := rfl; (try simp only [ByteArray.size_append, ByteArray.size_extract, e0_, e1_, e2_] at h_); (try simp only [decide_eq_true_eq] at *); omega))))
                            replace H := Option.bind_eq_some_iff.mp H
                            obtain ⟨⟨t256, t257, t258, t259⟩, A500, H⟩ := H
                            replace H : (if t241 = true then (if t247 = true then (if t253 = true then (if t259 = true then (if (t238 == t244 && (t239.toList == t245.toList && (t240.toList == t246.toList))) = true then (if (t238 == t250 && (t239.toList == t251.toList && (t240.toList == t252.toList))) = true then (if (t238 == t256 && (t239.toList == t257.toList && (t240.toList == t258.toList))) = true then (some (t238 == a3)) else (some false)) else (some false)) else (some false)) else (some false)) else (some false)) else (some false)) else (some false)) = some r := H
                            have A50 := Aside0.mk A500
                            clear A500
                            by_cases c51 : t241 = true
                            ·subst c51
                             have H1 : (if t247 = true then (if t253 = true then (if t259 = true then (if (t238 == t244 && (t239.toList == t245.toList && (t240.toList == t246.toList))) = true then (if (t238 == t250 && (t239.toList == t251.toList && (t240.toList == t252.toList))) = true then (if (t238 == t256 && (t239.toList == t257.toList && (t240.toList == t258.toList))) = true then (some (t238 == a3)) else (some false)) else (some false)) else (some false)) else (some false)) else (some false)) else (some false)) = some r := by rw [if_pos rfl] at H; exact H
                             clear H
                             have H := H1
                             clear H1
                             by_cases c52 : t247 = true
                             ·subst c52
                              have H1 : (if t253 = true then (if t259 = true then (if (t238 == t244 && (t239.toList == t245.toList && (t240.toList == t246.toList))) = true then (if (t238 == t250 && (t239.toList == t251.toList && (t240.toList == t252.toList))) = true then (if (t238 == t256 && (t239.toList == t257.toList && (t240.toList == t258.toList))) = true then (some (t238 == a3)) else (some false)) else (some false)) else (some false)) else (some false)) else (some false)) = some r := by rw [if_pos rfl] at H; exact H
                              clear H
                              have H := H1
                              clear H1
                              by_cases c53 : t253 = true
                              ·subst c53
                               have H1 : (if t259 = true then (if (t238 == t244 && (t239.toList == t245.toList && (t240.toList == t246.toList))) = true then (if (t238 == t250 && (t239.toList == t251.toList && (t240.toList == t252.toList))) = true then (if (t238 == t256 && (t239.toList == t257.toList && (t240.toList == t258.toList))) = true then (some (t238 == a3)) else (some false)) else (some false)) else (some false)) else (some false)) = some r := by rw [if_pos rfl] at H; exact H
                               clear H
                               have H := H1
                               clear H1
                               by_cases c54 : t259 = true
                               ·subst c54
                                have H1 : (if (t238 == t244 && (t239.toList == t245.toList && (t240.toList == t246.toList))) = true then (if (t238 == t250 && (t239.toList == t251.toList && (t240.toList == t252.toList))) = true then (if (t238 == t256 && (t239.toList == t257.toList && (t240.toList == t258.toList))) = true then (some (t238 == a3)) else (some false)) else (some false)) else (some false)) = some r := by rw [if_pos rfl] at H; exact H
                                clear H
                                have H := H1
                                clear H1
                                by_cases c55 : (t238 == t244 && (t239.toList == t245.toList && (t240.toList == t246.toList))) = true
                                ·rw [if_pos c55] at H
                                 have c55b0 : (t238 == t244 && (t239.toList == t245.toList && (t240.toList == t246.toList))) = true := c55
                                 (try (have c55b1 : decide (t238 = t244 && (t239.toList == t245.toList && (t240.toList == t246.toList))) = true := by simpa using c55))
                                 (try (have c55b2 : (t238 == t244 && (t239.toList == t245.toList && (t240.toList == t246.toList))) = true := by simpa using c55))
                                 clear c55
                                 by_cases c56 : (t238 == t250 && (t239.toList == t251.toList && (t240.toList == t252.toList))) = true
                                 ·rw [if_pos c56] at H
                                  have c56b0 : (t238 == t250 && (t239.toList == t251.toList && (t240.toList == t252.toList))) = true := c56
                                  (try (have c56b1 : decide (t238 = t250 && (t239.toList == t251.toList && (t240.toList == t252.toList))) = true := by simpa using c56))
                                  (try (have c56b2 : (t238 == t250 && (t239.toList == t251.toList && (t240.toList == t252.toList))) = true := by simpa using c56))
                                  clear c56
                                  by_cases c57 : (t238 == t256 && (t239.toList == t257.toList && (t240.toList == t258.toList))) = true
                                  ·rw [if_pos c57] at H
                                   have c57b0 : (t238 == t256 && (t239.toList == t257.toList && (t240.toList == t258.toList))) = true := c57
                                   (try (have c57b1 : decide (t238 = t256 && (t239.toList == t257.toList && (t240.toList == t258.toList))) = true := by simpa using c57))
                                   (try (have c57b2 : (t238 == t256 && (t239.toList == t257.toList && (t240.toList == t258.toList))) = true := by simpa using c57))
                                   clear c57
                                   obtain rfl := Option.some.inj H
                                   go_wp2_with (first | ((with_reducible refine gate_callee (f := 18) rfl ?_); refine goesL_ (some 80) rfl rfl Tryd.func18 (by kernel_rfl) rfl #[.int .i64 a1] rfl (by (try simp only [List.map_toArray, List.map_cons, List.map_nil]); first | done | rfl | (simp only [List.length_drop, List.length_take]; rfl)) ?_; (with_reducible refine (r1_Dec.calls kj21 a1 t237 _ A28.out).mono ?_); rintro e w' ⟨rfl, ⟨nd, rfl⟩⟩; refine ⟨_, rfl, ?_⟩; (try (rw [drewN_self wc]; generalize hq_ : World.drewN wc _ = wc; have n0_ : Aside0 (Below w.heap.size w wc) := ⟨by rw [← hq_]; exact (by repeat (first | (with_reducible first | exact HB.out | apply below_alloc | apply pw_below_drewN | apply below_drew1) | exact HB.out))⟩; clear HB hq_; have HB := n0_; clear n0_))) | ((with_reducible refine gate_callee (f := 20) rfl ?_); refine goesL_ (some 82) rfl rfl Tryd.func20 (by kernel_rfl) rfl #[.string (((x13_21 ++ x10_2) ++ (⟨#[101]⟩ : ByteArray)) ++ t237)] rfl (by (try simp only [List.map_toArray, List.map_cons, List.map_nil]); first | done | rfl | (simp only [List.length_drop, List.length_take]; rfl)) ?_; (with_reducible refine (number_Read.calls kj21 (((x13_21 ++ x10_2) ++ (⟨#[101]⟩ : ByteArray)) ++ t237) t238 t239 t240 true _ ?side1 A30.out).mono ?_); (case side1 => first | exact hL | exact LaidW.below hL (by repeat (first | (with_reducible first | exact HB.out | apply below_alloc | apply pw_below_drewN | apply below_drew1) | exact HB.out)) | (repeat (first | exact hL | apply LaidW.drewN | apply LaidW.drew))); rintro e w58 ⟨rfl, hb⟩; refine ⟨_, rfl, ?_⟩; have n0_ := Aside0.mk (below_step (by repeat (first | (with_reducible first | exact HB.out | apply below_alloc | apply pw_below_drewN | apply below_drew1) | exact HB.out)) hb); clear HB; have HB := n0_; clear n0_; (try clear hb); (try clear hb2); (try clear hk); (try clear hi)) | ((with_reducible refine gate_dst (N := 15) rfl ?_); (try (refine gate_guard (by rfl) ?_; dsimp only)); refine box_event ?hg (N := 15) ?hd (cs := #[.bool false, .string (⟨#[]⟩ : ByteArray), .string (⟨#[]⟩ : ByteArray)]) (t := 34) ?hr ?_; (case hd => rfl); (case hg => rfl); (case hr => first | (go_simp; done) | (go_simp; rfl)); intro gb242 hg w59 hbox hb; have n0_ := Aside0.mk (below_step (by repeat (first | (with_reducible first | exact HB.out | apply below_alloc | apply pw_below_drewN | apply below_drew1) | exact HB.out)) hb); have n1_ := Aside0.mk (hbox); have n2_ := Aside0.mk ((by rw [hg]; exact (below_size (by repeat (first | (with_reducible first | exact HB.out | apply below_alloc | apply pw_below_drewN | apply below_drew1) | exact HB.out))) : w.heap.size ≤ gb242)); have n3_ := Aside0.mk ((by rw [hg]; exact (below_size (by repeat (first | (with_reducible first | exact HB.out | apply below_alloc | apply pw_below_drewN | apply below_drew1) | exact HB.out))) : w.heap.size ≤ gb242)); clear HB; have HB := n0_; have BK242 := n1_; have GW242 := n2_; have GE242 := n3_; clear n0_ n1_ n2_ n3_; clear hb hbox hg; have hcz60_0 : w59.cell? ⟨gb242, 0, none⟩ = some (.bool false) := (blk_cell BK242.out 0).trans rfl; have hcz60_1 : w59.cell? ⟨gb242, 1, none⟩ = some (.string (⟨#[]⟩ : ByteArray)) := (blk_cell BK242.out 1).trans rfl; have hcz60_2 : w59.cell? ⟨gb242, 2, none⟩ = some (.string (⟨#[]⟩ : ByteArray)) := (blk_cell BK242.out 2).trans rfl; have hfz60_0 := blk_frozen BK242.out 0; have hfz60_1 := blk_frozen BK242.out 1; have hfz60_2 := blk_frozen BK242.out 2) | ((with_reducible refine gate_callee (f := 18) rfl ?_); refine goesL_ (some 95) rfl rfl Tryd.func18 (by kernel_rfl) rfl #[.int .i64 (wrap64 (a1 - a2))] rfl (by (try simp only [List.map_toArray, List.map_cons, List.map_nil]); first | done | rfl | (simp only [List.length_drop, List.length_take]; rfl)) ?_; (with_reducible refine (r1_Dec.calls kj21 (wrap64 (a1 - a2)) t243 _ A33.out).mono ?_); rintro e w' ⟨rfl, ⟨nd, rfl⟩⟩; refine ⟨_, rfl, ?_⟩) | ((with_reducible refine gate_callee (f := 20) rfl ?_); refine goesL_ (some 97) rfl rfl Tryd.func20 (by kernel_rfl) rfl #[.string ((((x13_21 ++ x10_2) ++ ((⟨#[48, 48, 48, 48, 48, 48, 48, 48, 48, 48, 48, 48, 48, 48, 48, 48, 48, 48, 48, 48, 48, 48, 48, 48, 48, 48, 48, 48, 48, 48]⟩ : ByteArray).extract 0 (a2 : Int).toNat)) ++ (⟨#[69]⟩ : ByteArray)) ++ t243)] rfl (by (try simp only [List.map_toArray, List.map_cons, List.map_nil]); first | done | rfl | (simp only [List.length_drop, List.length_take]; rfl)) ?_; (with_reducible refine (number_Read.calls kj21 ((((x13_21 ++ x10_2) ++ ((⟨#[48, 48, 48, 48, 48, 48, 48, 48, 48, 48, 48, 48, 48, 48, 48, 48, 48, 48, 48, 48, 48, 48, 48, 48, 48, 48, 48, 48, 48, 48]⟩ : ByteArray).extract 0 (a2 : Int).toNat)) ++ (⟨#[69]⟩ : ByteArray)) ++ t243) t244 t245 t246 true _ ?side1 A35.out).mono ?_); (case side1 => first | exact hL | exact LaidW.below hL (by repeat (first | (with_reducible first | exact HB.out | apply below_alloc | apply pw_below_drewN | apply below_drew1 | refine below_set ?_ GE242.out) | exact HB.out)) | (repeat (first | exact hL | apply LaidW.drewN | apply LaidW.drew))); rintro e w61 ⟨rfl, hb⟩; refine ⟨_, rfl, ?_⟩; have n0_ := Aside0.mk (blk_below (g := gb242) (o := .cells #[.bool t238, .string t239, .string t240] 34 (0, 0)) (by (with_reducible repeat (first | refine blk_drewN ?_ _ | refine blk_drew ?_ | refine blk_alloc ?_ _)); refine blk_put (cs := #[.bool t238, .string t239, .string (⟨#[]⟩ : ByteArray)]) ?_ 2 _ rfl; (with_reducible repeat (first | refine blk_drewN ?_ _ | refine blk_drew ?_ | refine blk_alloc ?_ _)); refine blk_put (cs := #[.bool t238, .string (⟨#[]⟩ : ByteArray), .string (⟨#[]⟩ : ByteArray)]) ?_ 1 _ rfl; (with_reducible repeat (first | refine blk_drewN ?_ _ | refine blk_drew ?_ | refine blk_alloc ?_ _)); refine blk_put (cs := #[.bool false, .string (⟨#[]⟩ : ByteArray), .string (⟨#[]⟩ : ByteArray)]) ?_ 0 _ rfl; (with_reducible repeat (first | refine blk_drewN ?_ _ | refine blk_drew ?_ | refine blk_alloc ?_ _)); exact BK242.out) hb); have n1_ := Aside0.mk (below_step (by repeat (first | (with_reducible first | exact HB.out | apply below_alloc | apply pw_below_drewN | apply below_drew1 | refine below_set ?_ GE242.out) | exact HB.out)) hb); clear BK242; clear HB; have BK242 := n0_; have HB := n1_; clear n0_ n1_; (try clear hb); (try clear hb2); (try clear hk); (try clear hi)) | ((with_reducible refine gate_dst (N := 17) rfl ?_); (try (refine gate_guard (by rfl) ?_; dsimp only)); refine box_event ?hg (N := 17) ?hd (cs := #[.bool false, .string (⟨#[]⟩ : ByteArray), .string (⟨#[]⟩ : ByteArray)]) (t := 34) ?hr ?_; (case hd => rfl); (case hg => rfl); (case hr => first | (go_simp; done) | (go_simp; rfl)); intro gb248 hg w62 hbox hb; have n0_ := Aside0.mk (blk_below (g := gb242) (o := .cells #[.bool t238, .string t239, .string t240] 34 (0, 0)) (by (with_reducible repeat (first | refine blk_drewN ?_ _ | refine blk_drew ?_ | refine blk_alloc ?_ _)); exact BK242.out) hb); have n1_ := Aside0.mk (below_step (by repeat (first | (with_reducible first | exact HB.out | apply below_alloc | apply pw_below_drewN | apply below_drew1 | refine below_set ?_ GE242.out) | exact HB.out)) hb); have n2_ := Aside0.mk (hbox); have n3_ := Aside0.mk ((by rw [hg]; exact (below_size (by repeat (first | (with_reducible first | exact HB.out | apply below_alloc | apply pw_below_drewN | apply below_drew1 | refine below_set ?_ GE242.out) | exact HB.out))) : w.heap.size ≤ gb248)); have n4_ := Aside0.mk ((by rw [hg]; exact (below_size (by repeat (first | (with_reducible first | exact HB.out | apply below_alloc | apply pw_below_drewN | apply below_drew1 | refine below_set ?_ GE242.out) | exact HB.out))) : w.heap.size ≤ gb248)); have n5_ := Aside0.mk ((by rw [hg]; exact Nat.ne_of_lt (blk_lt (g := gb242) (o := .cells #[.bool t238, .string t239, .string t240] 34 (0, 0)) (by (with_reducible repeat (first | refine blk_drewN ?_ _ | refine blk_drew ?_ | refine blk_alloc ?_ _)); exact BK242.out)) : gb242 ≠ gb248)); have n6_ := Aside0.mk ((by rw [hg]; exact Nat.ne_of_gt (blk_lt (g := gb242) (o := .cells #[.bool t238, .string t239, .string t240] 34 (0, 0)) (by (with_reducible repeat (first | refine blk_drewN ?_ _ | refine blk_drew ?_ | refine blk_alloc ?_ _)); exact BK242.out)) : gb248 ≠ gb242)); clear BK242; clear HB; have BK242 := n0_; have HB := n1_; have BK248 := n2_; have GW248 := n3_; have GE248 := n4_; have NB242_248 := n5_; have NB248_242 := n6_; clear n0_ n1_ n2_ n3_ n4_ n5_ n6_; clear hb hbox hg; have hnb63 := NB248_242.out; have hnc63 := NB242_248.out; have hcz64_0 : w62.cell? ⟨gb248, 0, none⟩ = some (.bool false) := (blk_cell BK248.out 0).trans rfl; have hcz64_1 : w62.cell? ⟨gb248, 1, none⟩ = some (.string (⟨#[]⟩ : ByteArray)) := (blk_cell BK248.out 1).trans rfl; have hcz64_2 : w62.cell? ⟨gb248, 2, none⟩ = some (.string (⟨#[]⟩ : ByteArray)) := (blk_cell BK248.out 2).trans rfl; have hfz64_0 := blk_frozen BK248.out 0; have hfz64_1 := blk_frozen BK248.out 1; have hfz64_2 := blk_frozen BK248.out 2) | ((with_reducible refine gate_callee (f := 18) rfl ?_); refine goesL_ (some 110) rfl rfl Tryd.func18 (by kernel_rfl) rfl #[.int .i64 a1] rfl (by (try simp only [List.map_toArray, List.map_cons, List.map_nil]); first | done | rfl | (simp only [List.length_drop, List.length_take]; rfl)) ?_; (with_reducible refine (r1_Dec.calls kj21 a1 t249 _ A41.out).mono ?_); rintro e w' ⟨rfl, ⟨nd, rfl⟩⟩; refine ⟨_, rfl, ?_⟩) | ((with_reducible refine gate_callee (f := 20) rfl ?_); refine goesL_ (some 112) rfl rfl Tryd.func20 (by kernel_rfl) rfl #[.string ((((((x13_21 ++ (⟨#[48, 48]⟩ : ByteArray)) ++ x10_2) ++ (⟨#[46]⟩ : ByteArray)) ++ ((⟨#[48, 48, 48, 48, 48, 48, 48, 48, 48, 48, 48, 48, 48, 48, 48, 48, 48, 48, 48, 48, 48, 48, 48, 48, 48, 48, 48, 48, 48, 48]⟩ : ByteArray).extract 0 (a2 : Int).toNat)) ++ (⟨#[48, 101]⟩ : ByteArray)) ++ t249)] rfl (by (try simp only [List.map_toArray, List.map_cons, List.map_nil]); first | done | rfl | (simp only [List.length_drop, List.length_take]; rfl)) ?_; (with_reducible refine (number_Read.calls kj21 ((((((x13_21 ++ (⟨#[48, 48]⟩ : ByteArray)) ++ x10_2) ++ (⟨#[46]⟩ : ByteArray)) ++ ((⟨#[48, 48, 48, 48, 48, 48, 48, 48, 48, 48, 48, 48, 48, 48, 48, 48, 48, 48, 48, 48, 48, 48, 48, 48, 48, 48, 48, 48, 48, 48]⟩ : ByteArray).extract 0 (a2 : Int).toNat)) ++ (⟨#[48, 101]⟩ : ByteArray)) ++ t249) t250 t251 t252 true _ ?side1 A43.out).mono ?_); (case side1 => first | exact hL | exact LaidW.below hL (by repeat (first | (with_reducible first | exact HB.out | apply below_alloc | apply pw_below_drewN | apply below_drew1 | refine below_set ?_ GE242.out | refine below_set ?_ GE248.out) | exact HB.out)) | (repeat (first | exact hL | apply LaidW.drewN | apply LaidW.drew))); rintro e w65 ⟨rfl, hb⟩; refine ⟨_, rfl, ?_⟩; have n0_ := Aside0.mk (blk_below (g := gb242) (o := .cells #[.bool t238, .string t239, .string t240] 34 (0, 0)) (by (with_reducible repeat (first | refine blk_drewN ?_ _ | refine blk_drew ?_ | refine blk_alloc ?_ _)); refine blk_far ?_ NB242_248.out _; (with_reducible repeat (first | refine blk_drewN ?_ _ | refine blk_drew ?_ | refine blk_alloc ?_ _)); refine blk_far ?_ NB242_248.out _; (with_reducible repeat (first | refine blk_drewN ?_ _ | refine blk_drew ?_ | refine blk_alloc ?_ _)); refine blk_far ?_ NB242_248.out _; (with_reducible repeat (first | refine blk_drewN ?_ _ | refine blk_drew ?_ | refine blk_alloc ?_ _)); exact BK242.out) hb); have n1_ := Aside0.mk (blk_below (g := gb248) (o := .cells #[.bool t244, .string t245, .string t246] 34 (0, 0)) (by (with_reducible repeat (first | refine blk_drewN ?_ _ | refine blk_drew ?_ | refine blk_alloc ?_ _)); refine blk_put (cs := #[.bool t244, .string t245, .string (⟨#[]⟩ : ByteArray)]) ?_ 2 _ rfl; (with_reducible repeat (first | refine blk_drewN ?_ _ | refine blk_drew ?_ | refine blk_alloc ?_ _)); refine blk_put (cs := #[.bool t244, .string (⟨#[]⟩ : ByteArray), .string (⟨#[]⟩ : ByteArray)]) ?_ 1 _ rfl; (with_reducible repeat (first | refine blk_drewN ?_ _ | refine blk_drew ?_ | refine blk_alloc ?_ _)); refine blk_put (cs := #[.bool false, .string (⟨#[]⟩ : ByteArray), .string (⟨#[]⟩ : ByteArray)]) ?_ 0 _ rfl; (with_reducible repeat (first | refine blk_drewN ?_ _ | refine blk_drew ?_ | refine blk_alloc ?_ _)); exact BK248.out) hb); have n2_ := Aside0.mk (below_step (by repeat (first | (with_reducible first | exact HB.out | apply below_alloc | apply pw_below_drewN | apply below_drew1 | refine below_set ?_ GE242.out | refine below_set ?_ GE248.out) | exact HB.out)) hb); clear BK242; clear BK248; clear HB; have BK242 := n0_; have BK248 := n1_; have HB := n2_; clear n0_ n1_ n2_; (try clear hb); (try clear hb2); (try clear hk); (try clear hi)) | ((with_reducible refine gate_dst (N := 19) rfl ?_); (try (refine gate_guard (by rfl) ?_; dsimp only)); refine box_event ?hg (N := 19) ?hd (cs := #[.bool false, .string (⟨#[]⟩ : ByteArray), .string (⟨#[]⟩ : ByteArray)]) (t := 34) ?hr ?_; (case hd => rfl); (case hg => rfl); (case hr => first | (go_simp; done) | (go_simp; rfl)); intro gb254 hg w66 hbox hb; have n0_ := Aside0.mk (blk_below (g := gb242) (o := .cells #[.bool t238, .string t239, .string t240] 34 (0, 0)) (by (with_reducible repeat (first | refine blk_drewN ?_ _ | refine blk_drew ?_ | refine blk_alloc ?_ _)); exact BK242.out) hb); have n1_ := Aside0.mk (blk_below (g := gb248) (o := .cells #[.bool t244, .string t245, .string t246] 34 (0, 0)) (by (with_reducible repeat (first | refine blk_drewN ?_ _ | refine blk_drew ?_ | refine blk_alloc ?_ _)); exact BK248.out) hb); have n2_ := Aside0.mk (below_step (by repeat (first | (with_reducible first | exact HB.out | apply below_alloc | apply pw_below_drewN | apply below_drew1 | refine below_set ?_ GE242.out | refine below_set ?_ GE248.out) | exact HB.out)) hb); have n3_ := Aside0.mk (hbox); have n4_ := Aside0.mk ((by rw [hg]; exact (below_size (by repeat (first | (with_reducible first | exact HB.out | apply below_alloc | apply pw_below_drewN | apply below_drew1 | refine below_set ?_ GE242.out | refine below_set ?_ GE248.out) | exact HB.out))) : w.heap.size ≤ gb254)); have n5_ := Aside0.mk ((by rw [hg]; exact (below_size (by repeat (first | (with_reducible first | exact HB.out | apply below_alloc | apply pw_below_drewN | apply below_drew1 | refine below_set ?_ GE242.out | refine below_set ?_ GE248.out) | exact HB.out))) : w.heap.size ≤ gb254)); have n6_ := Aside0.mk ((by rw [hg]; exact Nat.ne_of_lt (blk_lt (g := gb242) (o := .cells #[.bool t238, .string t239, .string t240] 34 (0, 0)) (by (with_reducible repeat (first | refine blk_drewN ?_ _ | refine blk_drew ?_ | refine blk_alloc ?_ _)); exact BK242.out)) : gb242 ≠ gb254)); have n7_ := Aside0.mk ((by rw [hg]; exact Nat.ne_of_gt (blk_lt (g := gb242) (o := .cells #[.bool t238, .string t239, .string t240] 34 (0, 0)) (by (with_reducible repeat (first | refine blk_drewN ?_ _ | refine blk_drew ?_ | refine blk_alloc ?_ _)); exact BK242.out)) : gb254 ≠ gb242)); have n8_ := Aside0.mk ((by rw [hg]; exact Nat.ne_of_lt (blk_lt (g := gb248) (o := .cells #[.bool t244, .string t245, .string t246] 34 (0, 0)) (by (with_reducible repeat (first | refine blk_drewN ?_ _ | refine blk_drew ?_ | refine blk_alloc ?_ _)); exact BK248.out)) : gb248 ≠ gb254)); have n9_ := Aside0.mk ((by rw [hg]; exact Nat.ne_of_gt (blk_lt (g := gb248) (o := .cells #[.bool t244, .string t245, .string t246] 34 (0, 0)) (by (with_reducible repeat (first | refine blk_drewN ?_ _ | refine blk_drew ?_ | refine blk_alloc ?_ _)); exact BK248.out)) : gb254 ≠ gb248)); clear BK242; clear BK248; clear HB; have BK242 := n0_; have BK248 := n1_; have HB := n2_; have BK254 := n3_; have GW254 := n4_; have GE254 := n5_; have NB242_254 := n6_; have NB254_242 := n7_; have NB248_254 := n8_; have NB254_248 := n9_; clear n0_ n1_ n2_ n3_ n4_ n5_ n6_ n7_ n8_ n9_; clear hb hbox hg; have hnb67 := NB254_242.out; have hnc67 := NB242_254.out; have hnb68 := NB254_248.out; have hnc68 := NB248_254.out; have hcz69_0 : w66.cell? ⟨gb254, 0, none⟩ = some (.bool false) := (blk_cell BK254.out 0).trans rfl; have hcz69_1 : w66.cell? ⟨gb254, 1, none⟩ = some (.string (⟨#[]⟩ : ByteArray)) := (blk_cell BK254.out 1).trans rfl; have hcz69_2 : w66.cell? ⟨gb254, 2, none⟩ = some (.string (⟨#[]⟩ : ByteArray)) := (blk_cell BK254.out 2).trans rfl; have hfz69_0 := blk_frozen BK254.out 0; have hfz69_1 := blk_frozen BK254.out 1; have hfz69_2 := blk_frozen BK254.out 2) | ((with_reducible refine gate_callee (f := 18) rfl ?_); refine goesL_ (some 129) rfl rfl Tryd.func18 (by kernel_rfl) rfl #[.int .i64 (wrap64 ((wrap64 (a1 + a2)) + (x10_2.size : Int)))] rfl (by (try simp only [List.map_toArray, List.map_cons, List.map_nil]); first | done | rfl | (simp only [List.length_drop, List.length_take]; rfl)) ?_; (with_reducible refine (r1_Dec.calls kj21 (wrap64 ((wrap64 (a1 + a2)) + (x10_2.size : Int))) t255 _ A48.out).mono ?_); rintro e w' ⟨rfl, ⟨nd, rfl⟩⟩; refine ⟨_, rfl, ?_⟩) | ((with_reducible refine gate_callee (f := 20) rfl ?_); refine goesL_ (some 131) rfl rfl Tryd.func20 (by kernel_rfl) rfl #[.string (((((x13_21 ++ (⟨#[46]⟩ : ByteArray)) ++ ((⟨#[48, 48, 48, 48, 48, 48, 48, 48, 48, 48, 48, 48, 48, 48, 48, 48, 48, 48, 48, 48, 48, 48, 48, 48, 48, 48, 48, 48, 48, 48]⟩ : ByteArray).extract 0 (a2 : Int).toNat)) ++ x10_2) ++ (⟨#[101]⟩ : ByteArray)) ++ t255)] rfl (by (try simp only [List.map_toArray, List.map_cons, List.map_nil]); first | done | rfl | (simp only [List.length_drop, List.length_take]; rfl)) ?_; (with_reducible refine (number_Read.calls kj21 (((((x13_21 ++ (⟨#[46]⟩ : ByteArray)) ++ ((⟨#[48, 48, 48, 48, 48, 48, 48, 48, 48, 48, 48, 48, 48, 48, 48, 48, 48, 48, 48, 48, 48, 48, 48, 48, 48, 48, 48, 48, 48, 48]⟩ : ByteArray).extract 0 (a2 : Int).toNat)) ++ x10_2) ++ (⟨#[101]⟩ : ByteArray)) ++ t255) t256 t257 t258 true _ ?side1 A50.out).mono ?_); (case side1 => first | exact hL | exact LaidW.below hL (by repeat (first | (with_reducible first | exact HB.out | apply below_alloc | apply pw_below_drewN | apply below_drew1 | refine below_set ?_ GE242.out | refine below_set ?_ GE248.out | refine below_set ?_ GE254.out) | exact HB.out)) | (repeat (first | exact hL | apply LaidW.drewN | apply LaidW.drew))); rintro e w70 ⟨rfl, hb⟩; refine ⟨_, rfl, ?_⟩; have n0_ := Aside0.mk (blk_below (g := gb242) (o := .cells #[.bool t238, .string t239, .string t240] 34 (0, 0)) (by (with_reducible repeat (first | refine blk_drewN ?_ _ | refine blk_drew ?_ | refine blk_alloc ?_ _)); refine blk_far ?_ NB242_254.out _; (with_reducible repeat (first | refine blk_drewN ?_ _ | refine blk_drew ?_ | refine blk_alloc ?_ _)); refine blk_far ?_ NB242_254.out _; (with_reducible repeat (first | refine blk_drewN ?_ _ | refine blk_drew ?_ | refine blk_alloc ?_ _)); refine blk_far ?_ NB242_254.out _; (with_reducible repeat (first | refine blk_drewN ?_ _ | refine blk_drew ?_ | refine blk_alloc ?_ _)); exact BK242.out) hb); have n1_ := Aside0.mk (blk_below (g := gb248) (o := .cells #[.bool t244, .string t245, .string t246] 34 (0, 0)) (by (with_reducible repeat (first | refine blk_drewN ?_ _ | refine blk_drew ?_ | refine blk_alloc ?_ _)); refine blk_far ?_ NB248_254.out _; (with_reducible repeat (first | refine blk_drewN ?_ _ | refine blk_drew ?_ | refine blk_alloc ?_ _)); refine blk_far ?_ NB248_254.out _; (with_reducible repeat (first | refine blk_drewN ?_ _ | refine blk_drew ?_ | refine blk_alloc ?_ _)); refine blk_far ?_ NB248_254.out _; (with_reducible repeat (first | refine blk_drewN ?_ _ | refine blk_drew ?_ | refine blk_alloc ?_ _)); exact BK248.out) hb); have n2_ := Aside0.mk (blk_below (g := gb254) (o := .cells #[.bool t250, .string t251, .string t252] 34 (0, 0)) (by (with_reducible repeat (first | refine blk_drewN ?_ _ | refine blk_drew ?_ | refine blk_alloc ?_ _)); refine blk_put (cs := #[.bool t250, .string t251, .string (⟨#[]⟩ : ByteArray)]) ?_ 2 _ rfl; (with_reducible repeat (first | refine blk_drewN ?_ _ | refine blk_drew ?_ | refine blk_alloc ?_ _)); refine blk_put (cs := #[.bool t250, .string (⟨#[]⟩ : ByteArray), .string (⟨#[]⟩ : ByteArray)]) ?_ 1 _ rfl; (with_reducible repeat (first | refine blk_drewN ?_ _ | refine blk_drew ?_ | refine blk_alloc ?_ _)); refine blk_put (cs := #[.bool false, .string (⟨#[]⟩ : ByteArray), .string (⟨#[]⟩ : ByteArray)]) ?_ 0 _ rfl; (with_reducible repeat (first | refine blk_drewN ?_ _ | refine blk_drew ?_ | refine blk_alloc ?_ _)); exact BK254.out) hb); have n3_ := Aside0.mk (below_step (by repeat (first | (with_reducible first | exact HB.out | apply below_alloc | apply pw_below_drewN | apply below_drew1 | refine below_set ?_ GE242.out | refine below_set ?_ GE248.out | refine below_set ?_ GE254.out) | exact HB.out)) hb); clear BK242; clear BK248; clear BK254; clear HB; have BK242 := n0_; have BK248 := n1_; have BK254 := n2_; have HB := n3_; clear n0_ n1_ n2_ n3_; (try clear hb); (try clear hb2); (try clear hk); (try clear hi)) | ((with_reducible refine gate_dst (N := 21) rfl ?_); (try (refine gate_guard (by rfl) ?_; dsimp only)); refine box_event ?hg (N := 21) ?hd (cs := #[.bool false, .string (⟨#[]⟩ : ByteArray), .string (⟨#[]⟩ : ByteArray)]) (t := 34) ?hr ?_; (case hd => rfl); (case hg => rfl); (case hr => first | (go_simp; done) | (go_simp; rfl)); intro gb260 hg w71 hbox hb; have n0_ := Aside0.mk (blk_below (g := gb242) (o := .cells #[.bool t238, .string t239, .string t240] 34 (0, 0)) (by (with_reducible repeat (first | refine blk_drewN ?_ _ | refine blk_drew ?_ | refine blk_alloc ?_ _)); exact BK242.out) hb); have n1_ := Aside0.mk (blk_below (g := gb248) (o := .cells #[.bool t244, .string t245, .string t246] 34 (0, 0)) (by (with_reducible repeat (first | refine blk_drewN ?_ _ | refine blk_drew ?_ | refine blk_alloc ?_ _)); exact BK248.out) hb); have n2_ := Aside0.mk (blk_below (g := gb254) (o := .cells #[.bool t250, .string t251, .string t252] 34 (0, 0)) (by (with_reducible repeat (first | refine blk_drewN ?_ _ | refine blk_drew ?_ | refine blk_alloc ?_ _)); exact BK254.out) hb); have n3_ := Aside0.mk (below_step (by repeat (first | (with_reducible first | exact HB.out | apply below_alloc | apply pw_below_drewN | apply below_drew1 | refine below_set ?_ GE242.out | refine below_set ?_ GE248.out | refine below_set ?_ GE254.out) | exact HB.out)) hb); have n4_ := Aside0.mk (hbox); have n5_ := Aside0.mk ((by rw [hg]; exact (below_size (by repeat (first | (with_reducible first | exact HB.out | apply below_alloc | apply pw_below_drewN | apply below_drew1 | refine below_set ?_ GE242.out | refine below_set ?_ GE248.out | refine below_set ?_ GE254.out) | exact HB.out))) : w.heap.size ≤ gb260)); have n6_ := Aside0.mk ((by rw [hg]; exact (below_size (by repeat (first | (with_reducible first | exact HB.out | apply below_alloc | apply pw_below_drewN | apply below_drew1 | refine below_set ?_ GE242.out | refine below_set ?_ GE248.out | refine below_set ?_ GE254.out) | exact HB.out))) : w.heap.size ≤ gb260)); have n7_ := Aside0.mk ((by rw [hg]; exact Nat.ne_of_lt (blk_lt (g := gb242) (o := .cells #[.bool t238, .string t239, .string t240] 34 (0, 0)) (by (with_reducible repeat (first | refine blk_drewN ?_ _ | refine blk_drew ?_ | refine blk_alloc ?_ _)); exact BK242.out)) : gb242 ≠ gb260)); have n8_ := Aside0.mk ((by rw [hg]; exact Nat.ne_of_gt (blk_lt (g := gb242) (o := .cells #[.bool t238, .string t239, .string t240] 34 (0, 0)) (by (with_reducible repeat (first | refine blk_drewN ?_ _ | refine blk_drew ?_ | refine blk_alloc ?_ _)); exact BK242.out)) : gb260 ≠ gb242)); have n9_ := Aside0.mk ((by rw [hg]; exact Nat.ne_of_lt (blk_lt (g := gb248) (o := .cells #[.bool t244, .string t245, .string t246] 34 (0, 0)) (by (with_reducible repeat (first | refine blk_drewN ?_ _ | refine blk_drew ?_ | refine blk_alloc ?_ _)); exact BK248.out)) : gb248 ≠ gb260)); have n10_ := Aside0.mk ((by rw [hg]; exact Nat.ne_of_gt (blk_lt (g := gb248) (o := .cells #[.bool t244, .string t245, .string t246] 34 (0, 0)) (by (with_reducible repeat (first | refine blk_drewN ?_ _ | refine blk_drew ?_ | refine blk_alloc ?_ _)); exact BK248.out)) : gb260 ≠ gb248)); have n11_ := Aside0.mk ((by rw [hg]; exact Nat.ne_of_lt (blk_lt (g := gb254) (o := .cells #[.bool t250, .string t251, .string t252] 34 (0, 0)) (by (with_reducible repeat (first | refine blk_drewN ?_ _ | refine blk_drew ?_ | refine blk_alloc ?_ _)); exact BK254.out)) : gb254 ≠ gb260)); have n12_ := Aside0.mk ((by rw [hg]; exact Nat.ne_of_gt (blk_lt (g := gb254) (o := .cells #[.bool t250, .string t251, .string t252] 34 (0, 0)) (by (with_reducible repeat (first | refine blk_drewN ?_ _ | refine blk_drew ?_ | refine blk_alloc ?_ _)); exact BK254.out)) : gb260 ≠ gb254)); clear BK242; clear BK248; clear BK254; clear HB; have BK242 := n0_; have BK248 := n1_; have BK254 := n2_; have HB := n3_; have BK260 := n4_; have GW260 := n5_; have GE260 := n6_; have NB242_260 := n7_; have NB260_242 := n8_; have NB248_260 := n9_; have NB260_248 := n10_; have NB254_260 := n11_; have NB260_254 := n12_; clear n0_ n1_ n2_ n3_ n4_ n5_ n6_ n7_ n8_ n9_ n10_ n11_ n12_; clear hb hbox hg; have hnb72 := NB260_242.out; have hnc72 := NB242_260.out; have hnb73 := NB260_248.out; have hnc73 := NB248_260.out; have hnb74 := NB260_254.out; have hnc74 := NB254_260.out; have hcz75_0 : w71.cell? ⟨gb260, 0, none⟩ = some (.bool false) := (blk_cell BK260.out 0).trans rfl; have hcz75_1 : w71.cell? ⟨gb260, 1, none⟩ = some (.string (⟨#[]⟩ : ByteArray)) := (blk_cell BK260.out 1).trans rfl; have hcz75_2 : w71.cell? ⟨gb260, 2, none⟩ = some (.string (⟨#[]⟩ : ByteArray)) := (blk_cell BK260.out 2).trans rfl; have hfz75_0 := blk_frozen BK260.out 0; have hfz75_1 := blk_frozen BK260.out 1; have hfz75_2 := blk_frozen BK260.out 2; have hcz76_0 : w71.cell? ⟨gb242, 0, none⟩ = some (.bool t238) := (blk_cell BK242.out 0).trans rfl; have hcz76_1 : w71.cell? ⟨gb242, 1, none⟩ = some (.string t239) := (blk_cell BK242.out 1).trans rfl; have hcz76_2 : w71.cell? ⟨gb242, 2, none⟩ = some (.string t240) := (blk_cell BK242.out 2).trans rfl; have hfz76_0 := blk_frozen BK242.out 0; have hfz76_1 := blk_frozen BK242.out 1; have hfz76_2 := blk_frozen BK242.out 2; have hcz77_0 : w71.cell? ⟨gb248, 0, none⟩ = some (.bool t244) := (blk_cell BK248.out 0).trans rfl; have hcz77_1 : w71.cell? ⟨gb248, 1, none⟩ = some (.string t245) := (blk_cell BK248.out 1).trans rfl; have hcz77_2 : w71.cell? ⟨gb248, 2, none⟩ = some (.string t246) := (blk_cell BK248.out 2).trans rfl; have hfz77_0 := blk_frozen BK248.out 0; have hfz77_1 := blk_frozen BK248.out 1; have hfz77_2 := blk_frozen BK248.out 2; have hcz78_0 : w71.cell? ⟨gb254, 0, none⟩ = some (.bool t250) := (blk_cell BK254.out 0).trans rfl; have hcz78_1 : w71.cell? ⟨gb254, 1, none⟩ = some (.string t251) := (blk_cell BK254.out 1).trans rfl; have hcz78_2 : w71.cell? ⟨gb254, 2, none⟩ = some (.string t252) := (blk_cell BK254.out 2).trans rfl; have hfz78_0 := blk_frozen BK254.out 0; have hfz78_1 := blk_frozen BK254.out 1; have hfz78_2 := blk_frozen BK254.out 2))
                                   go_ret
                                   exact ⟨by first | rfl | (simp [errW_none, errW_some] <;> rfl) | (simp [*, errW_none, errW_some] <;> rfl), by repeat (first | (with_reducible first | exact HB.out | apply below_alloc | apply pw_below_drewN | apply below_drew1 | refine below_set ?_ GE242.out | refine below_set ?_ GE248.out | refine below_set ?_ GE254.out | refine below_set ?_ GE260.out) | exact HB.out)⟩
                                  ·rw [if_neg c57] at H
                                   have c57b0 : (t238 == t256 && (t239.toList == t257.toList && (t240.toList == t258.toList))) = false := by simpa using c57
                                   (try (have c57b1 : decide (t238 = t256 && (t239.toList == t257.toList && (t240.toList == t258.toList))) = false := by simpa using c57))
                                   (try (have c57b2 : (t238 == t256 && (t239.toList == t257.toList && (t240.toList == t258.toList))) = false := by simpa using c57))
                                   (try (have c57b3 : ¬ (t238 = t256 && (t239.toList == t257.toList && (t240.toList == t258.toList))) := by simpa using c57))
                                   clear c57
                                   exact absurd ((Option.some.inj H).trans hr_.out) (by decide)
                                 ·rw [if_neg c56] at H
                                  have c56b0 : (t238 == t250 && (t239.toList == t251.toList && (t240.toList == t252.toList))) = false := by simpa using c56
                                  (try (have c56b1 : decide (t238 = t250 && (t239.toList == t251.toList && (t240.toList == t252.toList))) = false := by simpa using c56))
                                  (try (have c56b2 : (t238 == t250 && (t239.toList == t251.toList && (t240.toList == t252.toList))) = false := by simpa using c56))
                                  (try (have c56b3 : ¬ (t238 = t250 && (t239.toList == t251.toList && (t240.toList == t252.toList))) := by simpa using c56))
                                  clear c56
                                  exact absurd ((Option.some.inj H).trans hr_.out) (by decide)
                                ·rw [if_neg c55] at H
                                 have c55b0 : (t238 == t244 && (t239.toList == t245.toList && (t240.toList == t246.toList))) = false := by simpa using c55
                                 (try (have c55b1 : decide (t238 = t244 && (t239.toList == t245.toList && (t240.toList == t246.toList))) = false := by simpa using c55))
                                 (try (have c55b2 : (t238 == t244 && (t239.toList == t245.toList && (t240.toList == t246.toList))) = false := by simpa using c55))
                                 (try (have c55b3 : ¬ (t238 = t244 && (t239.toList == t245.toList && (t240.toList == t246.toList))) := by simpa using c55))
                                 clear c55
                                 exact absurd ((Option.some.inj H).trans hr_.out) (by decide)
                               ·replace c54 := Bool.eq_false_iff.mpr c54
                                subst c54
                                have H1 : (some false) = some r := by rw [if_neg (show ¬ (false = true) by decide)] at H; exact H
                                clear H
                                have H := H1
                                clear H1
                                exact absurd ((Option.some.inj H).trans hr_.out) (by decide)
                              ·replace c53 := Bool.eq_false_iff.mpr c53
                               subst c53
                               have H1 : (some false) = some r := by rw [if_neg (show ¬ (false = true) by decide)] at H; exact H
                               clear H
                               have H := H1
                               clear H1
                               exact absurd ((Option.some.inj H).trans hr_.out) (by decide)
                             ·replace c52 := Bool.eq_false_iff.mpr c52
                              subst c52
                              have H1 : (some false) = some r := by rw [if_neg (show ¬ (false = true) by decide)] at H; exact H
                              clear H
                              have H := H1
                              clear H1
                              exact absurd ((Option.some.inj H).trans hr_.out) (by decide)
                            ·replace c51 := Bool.eq_false_iff.mpr c51
                             subst c51
                             have H1 : (some false) = some r := by rw [if_neg (show ¬ (false = true) by decide)] at H; exact H
                             clear H
                             have H := H1
                             clear H1
                             exact absurd ((Option.some.inj H).trans hr_.out) (by decide)
                           ·rw [if_neg c49] at H
                            exact absurd H (by simp)
                          ·rw [if_neg c47] at H
                           exact absurd H (by simp)
                         ·rw [if_neg c46] at H
                          exact absurd H (by simp)
                        ·rw [if_neg c45] at H
                         exact absurd H (by simp)
                       ·rw [if_neg c44] at H
                        exact absurd H (by simp)
                      ·rw [if_neg c42] at H
                       exact absurd H (by simp)
                     ·rw [if_neg c40] at H
                      exact absurd H (by simp)
                    ·rw [if_neg c39] at H
                     exact absurd H (by simp)
                   ·rw [if_neg c38] at H
                    exact absurd H (by simp)
                  ·rw [if_neg c37] at H
                   exact absurd H (by simp)
                 ·rw [if_neg c36] at H
                  exact absurd H (by simp)
                ·rw [if_neg c34] at H
                 exact absurd H (by simp)
               ·rw [if_neg c32] at H
                exact absurd H (by simp)
              ·rw [if_neg c31] at H
               exact absurd H (by simp)
             ·rw [if_neg c29] at H
              exact absurd H (by simp)
            ·rw [if_neg c27] at H
             exact absurd H (by simp)
           ·rw [if_neg c26] at H
            exact absurd H (by simp)
          ·rw [if_neg c25] at H
           exact absurd H (by simp)
         ·rw [if_neg c24] at H
          exact absurd H (by simp)
def l5_NumberShift.Pure : Prop := ∀ (l0 : List Int) (a1 : Int) (a2 : Int) (a3 : Bool), l0.length ≤ maxLen → l0.length * 8 ≤ 140737488351232 → (∀ x ∈ l0, (Lit.int .i64 x).wf = true) → (Lit.int .i64 a1).wf = true → (Lit.int .i64 a2).wf = true → ∃ k, l5_NumberShift.f k l0 a1 a2 a3 = some true
theorem l5_NumberShift.walk (P : l5_NumberShift.Pure) (a0 : Option Addr) (len0 cap0 : Nat) (z0 : List Int) (a1 : Int) (a2 : Int) (a3 : Bool) (w : World) (w0 : (a0 = none ∧ len0 = 0 ∧ cap0 = 0 ∧ z0 = []) ∨ ∃ x, a0 = some x ∧ len0 ≤ cap0 ∧ cap0 ≤ maxLen ∧ z0.length = cap0 ∧ (∀ i, i < z0.length → w.cell? (x.add i) = some (.int .i64 (z0.getD i 0))) ∧ ∀ n ∈ z0, (Lit.int .i64 n).wf = true) (y0 : len0 * 8 ≤ 140737488351232) (w1 : (Lit.int .i64 a1).wf = true) (w2 : (Lit.int .i64 a2).wf = true) (hL : LaidW w) :
  Calls Tryd.prog 7 #[.slice a0 len0 cap0, .int .i64 a1, .int .i64 a2, .bool a3] w fun e w' => e = .returned (.bool true) ∧ Below w.heap.size w w' := by
 obtain ⟨l0, rfl, hr0, hm0, hw0, hc0⟩ := ReadsInt.ofRowC w0
 obtain ⟨k, h⟩ := P l0 a1 a2 a3 hm0 y0 hw0 w1 w2
 refine (l5_NumberShift.calls k _ _ l0 a1 a2 a3 true w (Kd.C_of_reads (d := (0 : Int)) (h1 := fun _ => rfl) hr0) hc0 hL ⟨rfl⟩ h).mono ?_
 rintro e w' ⟨rfl, hd⟩
 exact ⟨rfl, hd⟩
end Go.Proofs.YthimiidnbnlemaaDoor.P
