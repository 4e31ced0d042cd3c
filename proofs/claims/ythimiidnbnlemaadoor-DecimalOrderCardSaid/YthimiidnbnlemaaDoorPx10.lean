-- printed by xprint.py (a program of this session's, over the kit's print); Lean checks it
import Derived.Test.YthimiidnbnlemaaDoorPx0
import Derived.Test.YthimiidnbnlemaaDoorPx6
import Derived.Test.YthimiidnbnlemaaDoorPx7
import Derived.Test.YthimiidnbnlemaaDoorPx8
namespace Go.Proofs.YthimiidnbnlemaaDoor.P
open Go.RowKit Go.Proofs.YthimiidnbnlemaaDoorW.PrintWords Go.Proofs.YthimiidnbnlemaaDoorW.PrintLast Go.Proofs.YthimiidnbnlemaaDoorW.PrintMore Go.Proofs.YthimiidnbnlemaaDoorX
attribute [local go_sem] max2_int min2_int max_two min_two max_three min_three max_four min_four   -- for this text's walks alone
set_option linter.unusedVariables false
set_option linter.unusedSimpArgs false

/-! ### abridgerlaw4_DecimalOrder: function 4 -/
mutual
def abridgerlaw4_DecimalOrder.j0 : Nat → ByteArray → ByteArray → ByteArray → Bool → Bool → Option (Bool)
  | 0, _, _, _, _, _ => none
  | k + 1, x0, x1, x2, x7, x45 => if x45 = true then (some x7) else ((decimal_Less.f k x0 x1).bind fun t196 => (if t196 = true then (abridgerlaw4_DecimalOrder.j1 k x0 x1 x2 (0 + 1)) else (abridgerlaw4_DecimalOrder.j1 k x0 x1 x2 0)))
def abridgerlaw4_DecimalOrder.j1 : Nat → ByteArray → ByteArray → ByteArray → Int → Option (Bool)
  | 0, _, _, _, _ => none
  | k + 1, x0, x1, x2, x8 => (decimal_Less.f k x1 x0).bind fun t197 => (if t197 = true then (abridgerlaw4_DecimalOrder.j2 k x0 x1 x2 (wrap64 (x8 + 1))) else (abridgerlaw4_DecimalOrder.j2 k x0 x1 x2 x8))
def abridgerlaw4_DecimalOrder.j2 : Nat → ByteArray → ByteArray → ByteArray → Int → Option (Bool)
  | 0, _, _, _, _ => none
  | k + 1, x0, x1, x2, x8 => if x0.toList = x1.toList then (abridgerlaw4_DecimalOrder.j3 k x0 x1 x2 (wrap64 (x8 + 1))) else (abridgerlaw4_DecimalOrder.j3 k x0 x1 x2 x8)
def abridgerlaw4_DecimalOrder.j3 : Nat → ByteArray → ByteArray → ByteArray → Int → Option (Bool)
  | 0, _, _, _, _ => none
  | k + 1, x0, x1, x2, x8 => (decimal_Add.f k x0 x2).bind fun bt198 => ((decimal_Add.f k x1 x2).bind fun bt200 => (if x8 = 1 then ((decimal_Less.f k bt198.1 bt200.1).bind fun t202 => ((decimal_Less.f k x0 x1).bind fun t203 => (some (t202 == t203)))) else (some false)))
end
def abridgerlaw4_DecimalOrder.f (k : Nat) (a0 : ByteArray) (a1 : ByteArray) (a2 : ByteArray) : Option (Bool) := (abridgerlaw4_alive.f k).bind fun t192 => (if t192 = true then (if (a0.size : Int) > 100 then (abridgerlaw4_DecimalOrder.j0 k a0 a1 a2 t192 true) else (if (a1.size : Int) > 100 then (abridgerlaw4_DecimalOrder.j0 k a0 a1 a2 t192 true) else (if (a2.size : Int) > 100 then (abridgerlaw4_DecimalOrder.j0 k a0 a1 a2 t192 true) else ((abridgerref1_RightDecimal.f k a0).bind fun t193 => (if t193 = true then ((abridgerref1_RightDecimal.f k a1).bind fun t194 => (if t194 = true then ((abridgerref1_RightDecimal.f k a2).bind fun t195 => (abridgerlaw4_DecimalOrder.j0 k a0 a1 a2 t192 (!t195))) else (abridgerlaw4_DecimalOrder.j0 k a0 a1 a2 t192 true))) else (abridgerlaw4_DecimalOrder.j0 k a0 a1 a2 t192 true)))))) else (abridgerlaw4_DecimalOrder.j0 k a0 a1 a2 t192 true))
theorem abridgerlaw4_DecimalOrder.mono_l : ∀ k, (∀ y0 y1 y2 y3 y4, LeO (abridgerlaw4_DecimalOrder.j0 k y0 y1 y2 y3 y4) (abridgerlaw4_DecimalOrder.j0 (k + 1) y0 y1 y2 y3 y4)) ∧ (∀ y0 y1 y2 y3, LeO (abridgerlaw4_DecimalOrder.j1 k y0 y1 y2 y3) (abridgerlaw4_DecimalOrder.j1 (k + 1) y0 y1 y2 y3)) ∧ (∀ y0 y1 y2 y3, LeO (abridgerlaw4_DecimalOrder.j2 k y0 y1 y2 y3) (abridgerlaw4_DecimalOrder.j2 (k + 1) y0 y1 y2 y3)) ∧ (∀ y0 y1 y2 y3, LeO (abridgerlaw4_DecimalOrder.j3 k y0 y1 y2 y3) (abridgerlaw4_DecimalOrder.j3 (k + 1) y0 y1 y2 y3))
  | 0 => ⟨fun _ _ _ _ _ r h => by simp [abridgerlaw4_DecimalOrder.j0] at h, fun _ _ _ _ r h => by simp [abridgerlaw4_DecimalOrder.j1] at h, fun _ _ _ _ r h => by simp [abridgerlaw4_DecimalOrder.j2] at h, fun _ _ _ _ r h => by simp [abridgerlaw4_DecimalOrder.j3] at h⟩
  | k + 1 => by
    obtain ⟨ih0, ih1, ih2, ih3⟩ := abridgerlaw4_DecimalOrder.mono_l k
    refine ⟨?_, ?_, ?_, ?_⟩
    · intro y0 y1 y2 y3 y4
      unfold abridgerlaw4_DecimalOrder.j0
      repeat' first
      | (with_reducible exact ih0 _ _ _ _ _)
      | (with_reducible exact ih1 _ _ _ _)
      | (with_reducible exact ih2 _ _ _ _)
      | (with_reducible exact ih3 _ _ _ _)
      | (with_reducible exact abridgerlaw4_alive.mono _)
      | (with_reducible exact abridgerref1_RightDecimal.mono _ _)
      | (with_reducible exact decimal_Add.mono _ _ _)
      | (with_reducible exact decimal_Less.mono _ _ _)
      | (with_reducible exact LeO.refl _)
      | (with_reducible exact LeO.none _)
      | (with_reducible refine LeO.ite ?_ ?_)
      | (with_reducible refine LeO.bind ?_ (fun _ => ?_))
      | exact ih0 _ _ _ _ _
      | exact ih1 _ _ _ _
      | exact ih2 _ _ _ _
      | exact ih3 _ _ _ _
      | exact abridgerlaw4_alive.mono _
      | exact abridgerref1_RightDecimal.mono _ _
      | exact decimal_Add.mono _ _ _
      | exact decimal_Less.mono _ _ _
      | exact LeO.none _
      | refine LeO.ite ?_ ?_
      | refine LeO.bind ?_ (fun _ => ?_)
    · intro y0 y1 y2 y3
      unfold abridgerlaw4_DecimalOrder.j1
      repeat' first
      | (with_reducible exact ih0 _ _ _ _ _)
      | (with_reducible exact ih1 _ _ _ _)
      | (with_reducible exact ih2 _ _ _ _)
      | (with_reducible exact ih3 _ _ _ _)
      | (with_reducible exact abridgerlaw4_alive.mono _)
      | (with_reducible exact abridgerref1_RightDecimal.mono _ _)
      | (with_reducible exact decimal_Add.mono _ _ _)
      | (with_reducible exact decimal_Less.mono _ _ _)
      | (with_reducible exact LeO.refl _)
      | (with_reducible exact LeO.none _)
      | (with_reducible refine LeO.ite ?_ ?_)
      | (with_reducible refine LeO.bind ?_ (fun _ => ?_))
      | exact ih0 _ _ _ _ _
      | exact ih1 _ _ _ _
      | exact ih2 _ _ _ _
      | exact ih3 _ _ _ _
      | exact abridgerlaw4_alive.mono _
      | exact abridgerref1_RightDecimal.mono _ _
      | exact decimal_Add.mono _ _ _
      | exact decimal_Less.mono _ _ _
      | exact LeO.none _
      | refine LeO.ite ?_ ?_
      | refine LeO.bind ?_ (fun _ => ?_)
    · intro y0 y1 y2 y3
      unfold abridgerlaw4_DecimalOrder.j2
      repeat' first
      | (with_reducible exact ih0 _ _ _ _ _)
      | (with_reducible exact ih1 _ _ _ _)
      | (with_reducible exact ih2 _ _ _ _)
      | (with_reducible exact ih3 _ _ _ _)
      | (with_reducible exact abridgerlaw4_alive.mono _)
      | (with_reducible exact abridgerref1_RightDecimal.mono _ _)
      | (with_reducible exact decimal_Add.mono _ _ _)
      | (with_reducible exact decimal_Less.mono _ _ _)
      | (with_reducible exact LeO.refl _)
      | (with_reducible exact LeO.none _)
      | (with_reducible refine LeO.ite ?_ ?_)
      | (with_reducible refine LeO.bind ?_ (fun _ => ?_))
      | exact ih0 _ _ _ _ _
      | exact ih1 _ _ _ _
      | exact ih2 _ _ _ _
      | exact ih3 _ _ _ _
      | exact abridgerlaw4_alive.mono _
      | exact abridgerref1_RightDecimal.mono _ _
      | exact decimal_Add.mono _ _ _
      | exact decimal_Less.mono _ _ _
      | exact LeO.none _
      | refine LeO.ite ?_ ?_
      | refine LeO.bind ?_ (fun _ => ?_)
    · intro y0 y1 y2 y3
      unfold abridgerlaw4_DecimalOrder.j3
      repeat' first
      | (with_reducible exact ih0 _ _ _ _ _)
      | (with_reducible exact ih1 _ _ _ _)
      | (with_reducible exact ih2 _ _ _ _)
      | (with_reducible exact ih3 _ _ _ _)
      | (with_reducible exact abridgerlaw4_alive.mono _)
      | (with_reducible exact abridgerref1_RightDecimal.mono _ _)
      | (with_reducible exact decimal_Add.mono _ _ _)
      | (with_reducible exact decimal_Less.mono _ _ _)
      | (with_reducible exact LeO.refl _)
      | (with_reducible exact LeO.none _)
      | (with_reducible refine LeO.ite ?_ ?_)
      | (with_reducible refine LeO.bind ?_ (fun _ => ?_))
      | exact ih0 _ _ _ _ _
      | exact ih1 _ _ _ _
      | exact ih2 _ _ _ _
      | exact ih3 _ _ _ _
      | exact abridgerlaw4_alive.mono _
      | exact abridgerref1_RightDecimal.mono _ _
      | exact decimal_Add.mono _ _ _
      | exact decimal_Less.mono _ _ _
      | exact LeO.none _
      | refine LeO.ite ?_ ?_
      | refine LeO.bind ?_ (fun _ => ?_)
theorem abridgerlaw4_DecimalOrder.mono : ∀ a0 a1 a2 k, LeO (abridgerlaw4_DecimalOrder.f k a0 a1 a2) (abridgerlaw4_DecimalOrder.f (k + 1) a0 a1 a2) := by
  intro a0 a1 a2 k
  obtain ⟨ih0, ih1, ih2, ih3⟩ := abridgerlaw4_DecimalOrder.mono_l k
  unfold abridgerlaw4_DecimalOrder.f
  repeat' first
      | (with_reducible exact ih0 _ _ _ _ _)
      | (with_reducible exact ih1 _ _ _ _)
      | (with_reducible exact ih2 _ _ _ _)
      | (with_reducible exact ih3 _ _ _ _)
      | (with_reducible exact abridgerlaw4_alive.mono _)
      | (with_reducible exact abridgerref1_RightDecimal.mono _ _)
      | (with_reducible exact decimal_Add.mono _ _ _)
      | (with_reducible exact decimal_Less.mono _ _ _)
      | (with_reducible exact LeO.refl _)
      | (with_reducible exact LeO.none _)
      | (with_reducible refine LeO.ite ?_ ?_)
      | (with_reducible refine LeO.bind ?_ (fun _ => ?_))
      | exact ih0 _ _ _ _ _
      | exact ih1 _ _ _ _
      | exact ih2 _ _ _ _
      | exact ih3 _ _ _ _
      | exact abridgerlaw4_alive.mono _
      | exact abridgerref1_RightDecimal.mono _ _
      | exact decimal_Add.mono _ _ _
      | exact decimal_Less.mono _ _ _
      | exact LeO.none _
      | refine LeO.ite ?_ ?_
      | refine LeO.bind ?_ (fun _ => ?_)
set_option maxHeartbeats 8000000 in
set_option maxRecDepth 100000 in
theorem abridgerlaw4_DecimalOrder.calls (k : Nat) (a0 : ByteArray) (a1 : ByteArray) (a2 : ByteArray) (r : Bool) (w : World) (h : abridgerlaw4_DecimalOrder.f k a0 a1 a2 = some r) :
    Calls Tryd.prog 4 #[.string a0, .string a1, .string a2] w fun e w' => e = .returned (.bool r) ∧ Below w.heap.size w w' := by
  have HB := Aside0.mk (Below.refl w.heap.size w)
  have H : ((abridgerlaw4_alive.f k).bind fun t192 => (if t192 = true then (if (a0.size : Int) > 100 then (abridgerlaw4_DecimalOrder.j0 k a0 a1 a2 t192 true) else (if (a1.size : Int) > 100 then (abridgerlaw4_DecimalOrder.j0 k a0 a1 a2 t192 true) else (if (a2.size : Int) > 100 then (abridgerlaw4_DecimalOrder.j0 k a0 a1 a2 t192 true) else ((abridgerref1_RightDecimal.f k a0).bind fun t193 => (if t193 = true then ((abridgerref1_RightDecimal.f k a1).bind fun t194 => (if t194 = true then ((abridgerref1_RightDecimal.f k a2).bind fun t195 => (abridgerlaw4_DecimalOrder.j0 k a0 a1 a2 t192 (!t195))) else (abridgerlaw4_DecimalOrder.j0 k a0 a1 a2 t192 true))) else (abridgerlaw4_DecimalOrder.j0 k a0 a1 a2 t192 true)))))) else (abridgerlaw4_DecimalOrder.j0 k a0 a1 a2 t192 true))) = some r := h
  clear h
  replace H := Option.bind_eq_some_iff.mp H
  obtain ⟨t192, A40, H⟩ := H
  replace H : (if t192 = true then (if (a0.size : Int) > 100 then (abridgerlaw4_DecimalOrder.j0 k a0 a1 a2 t192 true) else (if (a1.size : Int) > 100 then (abridgerlaw4_DecimalOrder.j0 k a0 a1 a2 t192 true) else (if (a2.size : Int) > 100 then (abridgerlaw4_DecimalOrder.j0 k a0 a1 a2 t192 true) else ((abridgerref1_RightDecimal.f k a0).bind fun t193 => (if t193 = true then ((abridgerref1_RightDecimal.f k a1).bind fun t194 => (if t194 = true then ((abridgerref1_RightDecimal.f k a2).bind fun t195 => (abridgerlaw4_DecimalOrder.j0 k a0 a1 a2 t192 (!t195))) else (abridgerlaw4_DecimalOrder.j0 k a0 a1 a2 t192 true))) else (abridgerlaw4_DecimalOrder.j0 k a0 a1 a2 t192 true)))))) else (abridgerlaw4_DecimalOrder.j0 k a0 a1 a2 t192 true)) = some r := H
  have A4 := Aside0.mk A40
  clear A40
  have HC5 := Aside0.mk H
  clear H
  go_enter Tryd.func4, Tryd.ntmps4
  go_upto_region 2 with (first | ((with_reducible refine gate_callee (f := 9) rfl ?_); refine goesL_ (some 13) rfl rfl Tryd.func9 (by kernel_rfl) rfl #[] rfl (by (try simp only [List.map_toArray, List.map_cons, List.map_nil]); first | done | rfl | (simp only [List.length_drop, List.length_take]; rfl)) ?_; (with_reducible refine (abridgerlaw4_alive.calls k  t192 _ A4.out).mono ?_); rintro e w6 ⟨rfl, hb⟩; refine ⟨_, rfl, ?_⟩; have n0_ := Aside0.mk (below_step (by repeat (first | (with_reducible first | exact HB.out | apply below_alloc | apply pw_below_drewN | apply below_drew1) | exact HB.out)) hb); clear HB; have HB := n0_; clear n0_; (try clear hb); (try clear hb2); (try clear hk); (try clear hi)))
  (try simp only [Act.put, List.setIfInBounds_toArray, List.set_cons_zero, List.set_cons_succ])
  go_cut [45] (fun v45 wc => ∃ (kq : Nat) (x45_4 : Bool), v45 = .bool x45_4 ∧ Aside0 (abridgerlaw4_DecimalOrder.j0 kq a0 a1 a2 t192 x45_4 = some r) ∧ Aside0 (kq ≤ k) ∧ Aside0 (Below w.heap.size w wc))
  case first =>
    have H := HC5.out
    clear HC5
    by_cases c7 : t192 = true
    · subst c7
      have H1 : (if (a0.size : Int) > 100 then (abridgerlaw4_DecimalOrder.j0 k a0 a1 a2 true true) else (if (a1.size : Int) > 100 then (abridgerlaw4_DecimalOrder.j0 k a0 a1 a2 true true) else (if (a2.size : Int) > 100 then (abridgerlaw4_DecimalOrder.j0 k a0 a1 a2 true true) else ((abridgerref1_RightDecimal.f k a0).bind fun t193 => (if t193 = true then ((abridgerref1_RightDecimal.f k a1).bind fun t194 => (if t194 = true then ((abridgerref1_RightDecimal.f k a2).bind fun t195 => (abridgerlaw4_DecimalOrder.j0 k a0 a1 a2 true (!t195))) else (abridgerlaw4_DecimalOrder.j0 k a0 a1 a2 true true))) else (abridgerlaw4_DecimalOrder.j0 k a0 a1 a2 true true)))))) = some r := by rw [if_pos rfl] at H; exact H
      clear H
      have H := H1
      clear H1
      by_cases c8 : (a0.size : Int) > 100
      · rw [if_pos c8] at H
        have c8b0 : decide (100 < (a0.size : Int)) = true := decide_eq_true c8
        have c8b1 : decide (100 < a0.size) = true := decide_eq_true (by omega)
        clear c8
        (first | rw [c8b0] | (simp only [i64_w, i32_w]; rw [c8b0]) | skip)
        have H' := Aside0.mk H
        clear H
        go_wp2
        go_meet
        case rel => exact ⟨_, (true), (by first | rfl | (simp; done) | (simp [bne_nil_]; done) | (simp [*]; done)), H', ⟨by first | omega | exact Nat.le_refl _⟩, ⟨by repeat (first | (with_reducible first | exact HB.out | apply below_alloc | apply pw_below_drewN | apply below_drew1) | exact HB.out)⟩⟩
      · rw [if_neg c8] at H
        have c8b0 : decide (100 < (a0.size : Int)) = false := decide_eq_false c8
        have c8b1 : decide (100 < a0.size) = false := decide_eq_false (by omega)
        clear c8
        (first | rw [c8b0] | (simp only [i64_w, i32_w]; rw [c8b0]) | skip)
        by_cases c9 : (a1.size : Int) > 100
        · rw [if_pos c9] at H
          have c9b0 : decide (100 < (a1.size : Int)) = true := decide_eq_true c9
          have c9b1 : decide (100 < a1.size) = true := decide_eq_true (by omega)
          clear c9
          have H' := Aside0.mk H
          clear H
          go_wp2
          go_meet
          case rel => exact ⟨_, (true), (by first | rfl | (simp; done) | (simp [bne_nil_]; done) | (simp [*]; done)), H', ⟨by first | omega | exact Nat.le_refl _⟩, ⟨by repeat (first | (with_reducible first | exact HB.out | apply below_alloc | apply pw_below_drewN | apply below_drew1) | exact HB.out)⟩⟩
        · rw [if_neg c9] at H
          have c9b0 : decide (100 < (a1.size : Int)) = false := decide_eq_false c9
          have c9b1 : decide (100 < a1.size) = false := decide_eq_false (by omega)
          clear c9
          by_cases c10 : (a2.size : Int) > 100
          · rw [if_pos c10] at H
            have c10b0 : decide (100 < (a2.size : Int)) = true := decide_eq_true c10
            have c10b1 : decide (100 < a2.size) = true := decide_eq_true (by omega)
            clear c10
            have H' := Aside0.mk H
            clear H
            go_wp2
            go_meet
            case rel => exact ⟨_, (true), (by first | rfl | (simp; done) | (simp [bne_nil_]; done) | (simp [*]; done)), H', ⟨by first | omega | exact Nat.le_refl _⟩, ⟨by repeat (first | (with_reducible first | exact HB.out | apply below_alloc | apply pw_below_drewN | apply below_drew1) | exact HB.out)⟩⟩
          · rw [if_neg c10] at H
            have c10b0 : decide (100 < (a2.size : Int)) = false := decide_eq_false c10
            have c10b1 : decide (100 < a2.size) = false := decide_eq_false (by omega)
            clear c10
            replace H := Option.bind_eq_some_iff.mp H
            obtain ⟨t193, A110, H⟩ := H
            replace H : (if t193 = true then ((abridgerref1_RightDecimal.f k a1).bind fun t194 => (if t194 = true then ((abridgerref1_RightDecimal.f k a2).bind fun t195 => (abridgerlaw4_DecimalOrder.j0 k a0 a1 a2 true (!t195))) else (abridgerlaw4_DecimalOrder.j0 k a0 a1 a2 true true))) else (abridgerlaw4_DecimalOrder.j0 k a0 a1 a2 true true)) = some r := H
            have A11 := Aside0.mk A110
            clear A110
            by_cases c12 : t193 = true
            · subst c12
              have H1 : ((abridgerref1_RightDecimal.f k a1).bind fun t194 => (if t194 = true then ((abridgerref1_RightDecimal.f k a2).bind fun t195 => (abridgerlaw4_DecimalOrder.j0 k a0 a1 a2 true (!t195))) else (abridgerlaw4_DecimalOrder.j0 k a0 a1 a2 true true))) = some r := by rw [if_pos rfl] at H; exact H
              clear H
              have H := H1
              clear H1
              replace H := Option.bind_eq_some_iff.mp H
              obtain ⟨t194, A130, H⟩ := H
              replace H : (if t194 = true then ((abridgerref1_RightDecimal.f k a2).bind fun t195 => (abridgerlaw4_DecimalOrder.j0 k a0 a1 a2 true (!t195))) else (abridgerlaw4_DecimalOrder.j0 k a0 a1 a2 true true)) = some r := H
              have A13 := Aside0.mk A130
              clear A130
              by_cases c14 : t194 = true
              · subst c14
                have H1 : ((abridgerref1_RightDecimal.f k a2).bind fun t195 => (abridgerlaw4_DecimalOrder.j0 k a0 a1 a2 true (!t195))) = some r := by rw [if_pos rfl] at H; exact H
                clear H
                have H := H1
                clear H1
                replace H := Option.bind_eq_some_iff.mp H
                obtain ⟨t195, A150, H⟩ := H
                replace H : (abridgerlaw4_DecimalOrder.j0 k a0 a1 a2 true (!t195)) = some r := H
                have A15 := Aside0.mk A150
                clear A150
                have H' := Aside0.mk H
                clear H
                go_wp2_with (first | (go_at_call 10; (with_reducible refine (abridgerref1_RightDecimal.calls k a0 true _ A11.out).mono ?_); rintro e w' ⟨rfl, ⟨nd, rfl⟩⟩) | (go_at_call 10; (with_reducible refine (abridgerref1_RightDecimal.calls k a1 true _ A13.out).mono ?_); rintro e w' ⟨rfl, ⟨nd, rfl⟩⟩) | (go_at_call 10; (with_reducible refine (abridgerref1_RightDecimal.calls k a2 t195 _ A15.out).mono ?_); rintro e w' ⟨rfl, ⟨nd, rfl⟩⟩))
                go_meet
                case rel => exact ⟨_, (!t195), (by first | rfl | (simp; done) | (simp [bne_nil_]; done) | (simp [*]; done)), H', ⟨by first | omega | exact Nat.le_refl _⟩, ⟨by repeat (first | (with_reducible first | exact HB.out | apply below_alloc | apply pw_below_drewN | apply below_drew1) | exact HB.out)⟩⟩
              · replace c14 := Bool.eq_false_iff.mpr c14
                subst c14
                have H1 : (abridgerlaw4_DecimalOrder.j0 k a0 a1 a2 true true) = some r := by rw [if_neg (show ¬ (false = true) by decide)] at H; exact H
                clear H
                have H := H1
                clear H1
                have H' := Aside0.mk H
                clear H
                go_wp2_with (first | (go_at_call 10; (with_reducible refine (abridgerref1_RightDecimal.calls k a0 true _ A11.out).mono ?_); rintro e w' ⟨rfl, ⟨nd, rfl⟩⟩) | (go_at_call 10; (with_reducible refine (abridgerref1_RightDecimal.calls k a1 false _ A13.out).mono ?_); rintro e w' ⟨rfl, ⟨nd, rfl⟩⟩))
                go_meet
                case rel => exact ⟨_, (true), (by first | rfl | (simp; done) | (simp [bne_nil_]; done) | (simp [*]; done)), H', ⟨by first | omega | exact Nat.le_refl _⟩, ⟨by repeat (first | (with_reducible first | exact HB.out | apply below_alloc | apply pw_below_drewN | apply below_drew1) | exact HB.out)⟩⟩
            · replace c12 := Bool.eq_false_iff.mpr c12
              subst c12
              have H1 : (abridgerlaw4_DecimalOrder.j0 k a0 a1 a2 true true) = some r := by rw [if_neg (show ¬ (false = true) by decide)] at H; exact H
              clear H
              have H := H1
              clear H1
              have H' := Aside0.mk H
              clear H
              go_wp2_with (first | (go_at_call 10; (with_reducible refine (abridgerref1_RightDecimal.calls k a0 false _ A11.out).mono ?_); rintro e w' ⟨rfl, ⟨nd, rfl⟩⟩))
              go_meet
              case rel => exact ⟨_, (true), (by first | rfl | (simp; done) | (simp [bne_nil_]; done) | (simp [*]; done)), H', ⟨by first | omega | exact Nat.le_refl _⟩, ⟨by repeat (first | (with_reducible first | exact HB.out | apply below_alloc | apply pw_below_drewN | apply below_drew1) | exact HB.out)⟩⟩
    · replace c7 := Bool.eq_false_iff.mpr c7
      subst c7
      have H1 : (abridgerlaw4_DecimalOrder.j0 k a0 a1 a2 false true) = some r := by rw [if_neg (show ¬ (false = true) by decide)] at H; exact H
      clear H
      have H := H1
      clear H1
      have H' := Aside0.mk H
      clear H
      go_wp2
      go_meet
      case rel => exact ⟨_, (true), (by first | rfl | (simp; done) | (simp [bne_nil_]; done) | (simp [*]; done)), H', ⟨by first | omega | exact Nat.le_refl _⟩, ⟨by repeat (first | (with_reducible first | exact HB.out | apply below_alloc | apply pw_below_drewN | apply below_drew1) | exact HB.out)⟩⟩
  case rest =>
    clear HC5
    try clear c1
    try clear p2
    try clear c4
    try clear c7
    try clear c8
    try clear c8b0
    try clear c8b1
    try clear c9
    try clear c9b0
    try clear c9b1
    try clear c10
    try clear c10b0
    try clear c10b1
    try clear c12
    try clear c14
    obtain ⟨kq, x45_4, rfl, HA, HJ4, HB⟩ := hcut
    cases kq with
    | zero => exact absurd HA.out (by simp [abridgerlaw4_DecimalOrder.j0])
    | succ kj4 =>
      have H := HA.out
      clear HA
      simp only [abridgerlaw4_DecimalOrder.j0] at H
      by_cases c16 : x45_4 = true
      · subst c16
        have H1 : (some t192) = some r := by rw [if_pos rfl] at H; exact H
        clear H
        have H := H1
        clear H1
        obtain rfl := Option.some.inj H
        go_wp2
        go_ret
        exact ⟨by first | rfl | (simp [errW_none, errW_some] <;> rfl) | (simp [*, errW_none, errW_some] <;> rfl), by repeat (first | (with_reducible first | exact HB.out | apply below_alloc | apply pw_below_drewN | apply below_drew1) | exact HB.out)⟩
      · replace c16 := Bool.eq_false_iff.mpr c16
        subst c16
        have H1 : ((decimal_Less.f kj4 a0 a1).bind fun t196 => (if t196 = true then (abridgerlaw4_DecimalOrder.j1 kj4 a0 a1 a2 (0 + 1)) else (abridgerlaw4_DecimalOrder.j1 kj4 a0 a1 a2 0))) = some r := by rw [if_neg (show ¬ (false = true) by decide)] at H; exact H
        clear H
        have H := H1
        clear H1
        replace H := Option.bind_eq_some_iff.mp H
        obtain ⟨t196, A170, H⟩ := H
        replace H : (if t196 = true then (abridgerlaw4_DecimalOrder.j1 kj4 a0 a1 a2 (0 + 1)) else (abridgerlaw4_DecimalOrder.j1 kj4 a0 a1 a2 0)) = some r := H
        have A17 := Aside0.mk A170
        clear A170
        have HC18 := Aside0.mk H
        clear H
        go_upto_if 49 with (first | ((with_reducible refine gate_callee (f := 13) rfl ?_); refine goesL_ (some 49) rfl rfl Tryd.func13 (by kernel_rfl) rfl #[.string a0, .string a1] rfl (by (try simp only [List.map_toArray, List.map_cons, List.map_nil]); first | done | rfl | (simp only [List.length_drop, List.length_take]; rfl)) ?_; (with_reducible refine (decimal_Less.calls kj4 a0 a1 t196 _ A17.out).mono ?_); rintro e w19 ⟨rfl, hb⟩; refine ⟨_, rfl, ?_⟩; have n0_ := Aside0.mk (below_step (by repeat (first | (with_reducible first | exact HB.out | apply below_alloc | apply pw_below_drewN | apply below_drew1) | exact HB.out)) hb); clear HB; have HB := n0_; clear n0_; (try clear hb); (try clear hb2); (try clear hk); (try clear hi)))
        (try simp only [Act.put, List.setIfInBounds_toArray, List.set_cons_zero, List.set_cons_succ])
        go_cut [8] (fun v8 wc => ∃ (kq : Nat) (x8_17 : Int), v8 = .int .i64 x8_17 ∧ Aside0 (abridgerlaw4_DecimalOrder.j1 kq a0 a1 a2 x8_17 = some r) ∧ Aside0 (kq ≤ kj4) ∧ Aside0 (Below w.heap.size w wc))
        case first =>
          have H := HC18.out
          clear HC18
          by_cases c20 : t196 = true
          · subst c20
            have H1 : (abridgerlaw4_DecimalOrder.j1 kj4 a0 a1 a2 (0 + 1)) = some r := by rw [if_pos rfl] at H; exact H
            clear H
            have H := H1
            clear H1
            have H' := Aside0.mk H
            clear H
            go_wp2
            go_meet
            case rel => exact ⟨_, (0 + 1), (by first | rfl | (simp; done) | (simp [bne_nil_]; done) | (simp [*]; done)), H', ⟨by have := HJ4.out; first | omega | exact Nat.le_refl _⟩, ⟨by repeat (first | (with_reducible first | exact HB.out | apply below_alloc | apply pw_below_drewN | apply below_drew1) | exact HB.out)⟩⟩
          · replace c20 := Bool.eq_false_iff.mpr c20
            subst c20
            have H1 : (abridgerlaw4_DecimalOrder.j1 kj4 a0 a1 a2 0) = some r := by rw [if_neg (show ¬ (false = true) by decide)] at H; exact H
            clear H
            have H := H1
            clear H1
            have H' := Aside0.mk H
            clear H
            go_wp2
            go_meet
            case rel => exact ⟨_, (0), (by first | rfl | (simp; done) | (simp [bne_nil_]; done) | (simp [*]; done)), H', ⟨by have := HJ4.out; first | omega | exact Nat.le_refl _⟩, ⟨by repeat (first | (with_reducible first | exact HB.out | apply below_alloc | apply pw_below_drewN | apply below_drew1) | exact HB.out)⟩⟩
        case rest =>
          clear HC18
          try clear c1
          try clear c2
          try clear p2
          try clear c4
          try clear c7
          try clear c8
          try clear c8b0
          try clear c8b1
          try clear c9
          try clear c9b0
          try clear c9b1
          try clear c10
          try clear c10b0
          try clear c10b1
          try clear c12
          try clear c13
          try clear c14
          try clear c16
          try clear c20
          try clear p2
          obtain ⟨kq, x8_17, rfl, HA, HJ17, HB⟩ := hcut
          cases kq with
          | zero => exact absurd HA.out (by simp [abridgerlaw4_DecimalOrder.j1])
          | succ kj17 =>
            have H := HA.out
            clear HA
            simp only [abridgerlaw4_DecimalOrder.j1] at H
            replace H := Option.bind_eq_some_iff.mp H
            obtain ⟨t197, A210, H⟩ := H
            replace H : (if t197 = true then (abridgerlaw4_DecimalOrder.j2 kj17 a0 a1 a2 (wrap64 (x8_17 + 1))) else (abridgerlaw4_DecimalOrder.j2 kj17 a0 a1 a2 x8_17)) = some r := H
            have A21 := Aside0.mk A210
            clear A210
            have HC22 := Aside0.mk H
            clear H
            go_upto_if 54 with (first | ((with_reducible refine gate_callee (f := 13) rfl ?_); refine goesL_ (some 54) rfl rfl Tryd.func13 (by kernel_rfl) rfl #[.string a1, .string a0] rfl (by (try simp only [List.map_toArray, List.map_cons, List.map_nil]); first | done | rfl | (simp only [List.length_drop, List.length_take]; rfl)) ?_; (with_reducible refine (decimal_Less.calls kj17 a1 a0 t197 _ A21.out).mono ?_); rintro e w23 ⟨rfl, hb⟩; refine ⟨_, rfl, ?_⟩; have n0_ := Aside0.mk (below_step (by repeat (first | (with_reducible first | exact HB.out | apply below_alloc | apply pw_below_drewN | apply below_drew1) | exact HB.out)) hb); clear HB; have HB := n0_; clear n0_; (try clear hb); (try clear hb2); (try clear hk); (try clear hi)))
            (try simp only [Act.put, List.setIfInBounds_toArray, List.set_cons_zero, List.set_cons_succ])
            go_cut [8] (fun v8 wc => ∃ (kq : Nat) (x8_21 : Int), v8 = .int .i64 x8_21 ∧ Aside0 (abridgerlaw4_DecimalOrder.j2 kq a0 a1 a2 x8_21 = some r) ∧ Aside0 (kq ≤ kj17) ∧ Aside0 (Below w.heap.size w wc))
            case first =>
              have H := HC22.out
              clear HC22
              by_cases c24 : t197 = true
              · subst c24
                have H1 : (abridgerlaw4_DecimalOrder.j2 kj17 a0 a1 a2 (wrap64 (x8_17 + 1))) = some r := by rw [if_pos rfl] at H; exact H
                clear H
                have H := H1
                clear H1
                have H' := Aside0.mk H
                clear H
                go_wp2
                go_meet
                case rel => exact ⟨_, (wrap64 (x8_17 + 1)), (by first | rfl | (simp; done) | (simp [bne_nil_]; done) | (simp [*]; done)), H', ⟨by have := HJ4.out; have := HJ17.out; first | omega | exact Nat.le_refl _⟩, ⟨by repeat (first | (with_reducible first | exact HB.out | apply below_alloc | apply pw_below_drewN | apply below_drew1) | exact HB.out)⟩⟩
              · replace c24 := Bool.eq_false_iff.mpr c24
                subst c24
                have H1 : (abridgerlaw4_DecimalOrder.j2 kj17 a0 a1 a2 x8_17) = some r := by rw [if_neg (show ¬ (false = true) by decide)] at H; exact H
                clear H
                have H := H1
                clear H1
                have H' := Aside0.mk H
                clear H
                go_wp2
                go_meet
                case rel => exact ⟨_, (x8_17), (by first | rfl | (simp; done) | (simp [bne_nil_]; done) | (simp [*]; done)), H', ⟨by have := HJ4.out; have := HJ17.out; first | omega | exact Nat.le_refl _⟩, ⟨by repeat (first | (with_reducible first | exact HB.out | apply below_alloc | apply pw_below_drewN | apply below_drew1) | exact HB.out)⟩⟩
            case rest =>
              clear HC22
              try clear c1
              try clear c2
              try clear p2
              try clear c4
              try clear p6
              try clear c7
              try clear c8
              try clear c8b0
              try clear c8b1
              try clear c9
              try clear c9b0
              try clear c9b1
              try clear c10
              try clear c10b0
              try clear c10b1
              try clear c12
              try clear c13
              try clear c14
              try clear c16
              try clear c20
              try clear c24
              try clear p2
              obtain ⟨kq, x8_21, rfl, HA, HJ21, HB⟩ := hcut
              cases kq with
              | zero => exact absurd HA.out (by simp [abridgerlaw4_DecimalOrder.j2])
              | succ kj21 =>
                have H := HA.out
                clear HA
                simp only [abridgerlaw4_DecimalOrder.j2] at H
                have HC25 := Aside0.mk H
                clear H
                go_upto_if 59 with (fail)
                go_cut [8] (fun v8 wc => ∃ (kq : Nat) (x8_24 : Int), v8 = .int .i64 x8_24 ∧ Aside0 (abridgerlaw4_DecimalOrder.j3 kq a0 a1 a2 x8_24 = some r) ∧ Aside0 (kq ≤ kj21) ∧ Aside0 (Below w.heap.size w wc))
                case first =>
                  have H := HC25.out
                  clear HC25
                  by_cases c26 : a0.toList = a1.toList
                  · rw [if_pos c26] at H
                    have c26b0 : (a0.toList == a1.toList) = true := beq_iff_eq.mpr c26
                    have c26b1 : (a0.toList != a1.toList) = false := bne_eq_false_iff_eq.mpr c26
                    clear c26
                    (first | rw [c26b0] | (simp only [i64_w, i32_w]; rw [c26b0]) | skip)
                    have H' := Aside0.mk H
                    clear H
                    go_wp2
                    go_meet
                    case rel => exact ⟨_, (wrap64 (x8_21 + 1)), (by first | rfl | (simp; done) | (simp [bne_nil_]; done) | (simp [*]; done)), H', ⟨by have := HJ4.out; have := HJ17.out; have := HJ21.out; first | omega | exact Nat.le_refl _⟩, ⟨by repeat (first | (with_reducible first | exact HB.out | apply below_alloc | apply pw_below_drewN | apply below_drew1) | exact HB.out)⟩⟩
                  · rw [if_neg c26] at H
                    have c26b0 : (a0.toList == a1.toList) = false := beq_eq_false_iff_ne.mpr c26
                    have c26b1 : (a0.toList != a1.toList) = true := bne_iff_ne.mpr c26
                    (first | rw [c26b0] | (simp only [i64_w, i32_w]; rw [c26b0]) | skip)
                    have H' := Aside0.mk H
                    clear H
                    go_wp2
                    go_meet
                    case rel => exact ⟨_, (x8_21), (by first | rfl | (simp; done) | (simp [bne_nil_]; done) | (simp [*]; done)), H', ⟨by have := HJ4.out; have := HJ17.out; have := HJ21.out; first | omega | exact Nat.le_refl _⟩, ⟨by repeat (first | (with_reducible first | exact HB.out | apply below_alloc | apply pw_below_drewN | apply below_drew1) | exact HB.out)⟩⟩
                case rest =>
                  clear HC25
                  try clear c1
                  try clear c2
                  try clear p2
                  try clear c4
                  try clear p6
                  try clear c7
                  try clear c8
                  try clear c8b0
                  try clear c8b1
                  try clear c9
                  try clear c9b0
                  try clear c9b1
                  try clear c10
                  try clear c10b0
                  try clear c10b1
                  try clear c12
                  try clear c13
                  try clear c14
                  try clear c16
                  try clear c20
                  try clear c24
                  try clear c26
                  try clear c26b0
                  try clear c26b1
                  try clear p2
                  try clear p6
                  obtain ⟨kq, x8_24, rfl, HA, HJ24, HB⟩ := hcut
                  cases kq with
                  | zero => exact absurd HA.out (by simp [abridgerlaw4_DecimalOrder.j3])
                  | succ kj24 =>
                    have H := HA.out
                    clear HA
                    simp only [abridgerlaw4_DecimalOrder.j3] at H
                    replace H := Option.bind_eq_some_iff.mp H
                    obtain ⟨⟨t198, t199⟩, A270, H⟩ := H
                    replace H : ((decimal_Add.f kj24 a1 a2).bind fun bt200 => (if x8_24 = 1 then ((decimal_Less.f kj24 t198 bt200.1).bind fun t202 => ((decimal_Less.f kj24 a0 a1).bind fun t203 => (some (t202 == t203)))) else (some false))) = some r := H
                    have A27 := Aside0.mk A270
                    clear A270
                    replace H := Option.bind_eq_some_iff.mp H
                    obtain ⟨⟨t200, t201⟩, A280, H⟩ := H
                    replace H : (if x8_24 = 1 then ((decimal_Less.f kj24 t198 t200).bind fun t202 => ((decimal_Less.f kj24 a0 a1).bind fun t203 => (some (t202 == t203)))) else (some false)) = some r := H
                    have A28 := Aside0.mk A280
                    clear A280
                    by_cases c29 : x8_24 = 1
                    · rw [if_pos c29] at H
                      have c29b0 : (x8_24 == 1) = true := beq_iff_eq.mpr c29
                      have c29b1 : (x8_24 != 1) = false := bne_eq_false_iff_eq.mpr c29
                      clear c29
                      replace H := Option.bind_eq_some_iff.mp H
                      obtain ⟨t202, A300, H⟩ := H
                      replace H : ((decimal_Less.f kj24 a0 a1).bind fun t203 => (some (t202 == t203))) = some r := H
                      have A30 := Aside0.mk A300
                      clear A300
                      replace H := Option.bind_eq_some_iff.mp H
                      obtain ⟨t203, A310, H⟩ := H
                      replace H : (some (t202 == t203)) = some r := H
                      have A31 := Aside0.mk A310
                      clear A310
                      obtain rfl := Option.some.inj H
                      go_wp2_with (first | ((with_reducible refine gate_callee (f := 11) rfl ?_); refine goesL_ (some 65) rfl rfl Tryd.func11 (by kernel_rfl) rfl #[.string a0, .string a2] rfl (by (try simp only [List.map_toArray, List.map_cons, List.map_nil]); first | done | rfl | (simp only [List.length_drop, List.length_take]; rfl)) ?_; (with_reducible refine (decimal_Add.calls kj24 a0 a2 t198 t199 _ A27.out).mono ?_); rintro e w32 ⟨rfl, hb⟩; refine ⟨_, rfl, ?_⟩; have n0_ := Aside0.mk (below_step (by repeat (first | (with_reducible first | exact HB.out | apply below_alloc | apply pw_below_drewN | apply below_drew1) | exact HB.out)) hb); clear HB; have HB := n0_; clear n0_; (try clear hb); (try clear hb2); (try clear hk); (try clear hi)) | ((with_reducible refine gate_callee (f := 11) rfl ?_); refine goesL_ (some 71) rfl rfl Tryd.func11 (by kernel_rfl) rfl #[.string a1, .string a2] rfl (by (try simp only [List.map_toArray, List.map_cons, List.map_nil]); first | done | rfl | (simp only [List.length_drop, List.length_take]; rfl)) ?_; (with_reducible refine (decimal_Add.calls kj24 a1 a2 t200 t201 _ A28.out).mono ?_); rintro e w33 ⟨rfl, hb⟩; refine ⟨_, rfl, ?_⟩; have n0_ := Aside0.mk (below_step (by repeat (first | (with_reducible first | exact HB.out | apply below_alloc | apply pw_below_drewN | apply below_drew1) | exact HB.out)) hb); clear HB; have HB := n0_; clear n0_; (try clear hb); (try clear hb2); (try clear hk); (try clear hi)) | (go_at_call 13; (with_reducible refine (decimal_Less.calls kj24 t198 t200 t202 _ A30.out).mono ?_); rintro e w34 ⟨rfl, hb⟩; have n0_ := Aside0.mk (below_step (by repeat (first | (with_reducible first | exact HB.out | apply below_alloc | apply pw_below_drewN | apply below_drew1) | exact HB.out)) hb); clear HB; have HB := n0_; clear n0_; (try clear hb); (try clear hb2); (try clear hk); (try clear hi)) | (go_at_call 13; (with_reducible refine (decimal_Less.calls kj24 a0 a1 t203 _ A31.out).mono ?_); rintro e w35 ⟨rfl, hb⟩; have n0_ := Aside0.mk (below_step (by repeat (first | (with_reducible first | exact HB.out | apply below_alloc | apply pw_below_drewN | apply below_drew1) | exact HB.out)) hb); clear HB; have HB := n0_; clear n0_; (try clear hb); (try clear hb2); (try clear hk); (try clear hi)))
                      go_ret
                      exact ⟨by first | rfl | (simp [errW_none, errW_some] <;> rfl) | (simp [*, errW_none, errW_some] <;> rfl), by repeat (first | (with_reducible first | exact HB.out | apply below_alloc | apply pw_below_drewN | apply below_drew1) | exact HB.out)⟩
                    · rw [if_neg c29] at H
                      have c29b0 : (x8_24 == 1) = false := beq_eq_false_iff_ne.mpr c29
                      have c29b1 : (x8_24 != 1) = true := bne_iff_ne.mpr c29
                      obtain rfl := Option.some.inj H
                      go_wp2_with (first | ((with_reducible refine gate_callee (f := 11) rfl ?_); refine goesL_ (some 65) rfl rfl Tryd.func11 (by kernel_rfl) rfl #[.string a0, .string a2] rfl (by (try simp only [List.map_toArray, List.map_cons, List.map_nil]); first | done | rfl | (simp only [List.length_drop, List.length_take]; rfl)) ?_; (with_reducible refine (decimal_Add.calls kj24 a0 a2 t198 t199 _ A27.out).mono ?_); rintro e w36 ⟨rfl, hb⟩; refine ⟨_, rfl, ?_⟩; have n0_ := Aside0.mk (below_step (by repeat (first | (with_reducible first | exact HB.out | apply below_alloc | apply pw_below_drewN | apply below_drew1) | exact HB.out)) hb); clear HB; have HB := n0_; clear n0_; (try clear hb); (try clear hb2); (try clear hk); (try clear hi)) | ((with_reducible refine gate_callee (f := 11) rfl ?_); refine goesL_ (some 71) rfl rfl Tryd.func11 (by kernel_rfl) rfl #[.string a1, .string a2] rfl (by (try simp only [List.map_toArray, List.map_cons, List.map_nil]); first | done | rfl | (simp only [List.length_drop, List.length_take]; rfl)) ?_; (with_reducible refine (decimal_Add.calls kj24 a1 a2 t200 t201 _ A28.out).mono ?_); rintro e w37 ⟨rfl, hb⟩; refine ⟨_, rfl, ?_⟩; have n0_ := Aside0.mk (below_step (by repeat (first | (with_reducible first | exact HB.out | apply below_alloc | apply pw_below_drewN | apply below_drew1) | exact HB.out)) hb); clear HB; have HB := n0_; clear n0_; (try clear hb); (try clear hb2); (try clear hk); (try clear hi)))
                      go_ret
                      exact ⟨by first | rfl | (simp [errW_none, errW_some] <;> rfl) | (simp [*, errW_none, errW_some] <;> rfl), by repeat (first | (with_reducible first | exact HB.out | apply below_alloc | apply pw_below_drewN | apply below_drew1) | exact HB.out)⟩

/-- THE ONE PURE STATEMENT of abridgerlaw4_DecimalOrder: yours. -/
def abridgerlaw4_DecimalOrder.Pure : Prop := ∀ (a0 : ByteArray) (a1 : ByteArray) (a2 : ByteArray), a0.size ≤ 140737488351232 → a1.size ≤ 140737488351232 → a2.size ≤ 140737488351232 → ∃ k, abridgerlaw4_DecimalOrder.f k a0 a1 a2 = some true
theorem abridgerlaw4_DecimalOrder.walk (P : abridgerlaw4_DecimalOrder.Pure) (a0 : ByteArray) (a1 : ByteArray) (a2 : ByteArray) (w : World) (w0 : a0.size ≤ 140737488351232) (w1 : a1.size ≤ 140737488351232) (w2 : a2.size ≤ 140737488351232) :
    Calls Tryd.prog 4 #[.string a0, .string a1, .string a2] w fun e w' => e = .returned (.bool true) ∧ Below w.heap.size w w' := by
  obtain ⟨k, h⟩ := P a0 a1 a2 w0 w1 w2
  refine (abridgerlaw4_DecimalOrder.calls k a0 a1 a2 true w h).mono ?_
  rintro e w' ⟨rfl, hd⟩
  exact ⟨rfl, hd⟩

end Go.Proofs.YthimiidnbnlemaaDoor.P
