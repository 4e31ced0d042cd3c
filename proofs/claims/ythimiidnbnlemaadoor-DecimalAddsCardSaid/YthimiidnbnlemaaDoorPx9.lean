-- printed by xprint.py (a program of this session's, over the kit's print); Lean checks it
import Derived.Test.YthimiidnbnlemaaDoorPx0
import Derived.Test.YthimiidnbnlemaaDoorPx6
import Derived.Test.YthimiidnbnlemaaDoorPx7
import Derived.Test.YthimiidnbnlemaaDoorPx8
namespace Go.Proofs.YthimiidnbnlemaaDoor.P
open Go.RowKit Go.Proofs.YthimiidnbnlemaaDoorW.PrintWords Go.Proofs.YthimiidnbnlemaaDoorW.PrintLast Go.Proofs.YthimiidnbnlemaaDoorW.PrintMore Go.Proofs.YthimiidnbnlemaaDoorX
attribute [local go_sem] max2_int min2_int max_two min_two max_three min_three max_four min_four   -- for this text's walks alone
set_option linter.unusedVariables false
set_option linter.unusedSimpArgs false

/-! ### abridgerlaw4_DecimalAdds: function 3 -/
mutual
def abridgerlaw4_DecimalAdds.j0 : Nat → ByteArray → ByteArray → ByteArray → Bool → Bool → Option (Bool)
  | 0, _, _, _, _, _ => none
  | k + 1, x0, x1, x2, x7, x55 => if x55 = true then (some x7) else ((decimal_Add.f k x0 x1).bind fun bt172 => ((decimal_Add.f k x1 x0).bind fun bt174 => ((decimal_Add.f k bt172.1 x2).bind fun bt176 => ((decimal_Add.f k x1 x2).bind fun bt178 => ((decimal_Add.f k x0 bt178.1).bind fun bt180 => (if 1 + x1.size ≤ 9223372036854775807 then (if x1.toList = ([48] : List UInt8) then (abridgerlaw4_DecimalAdds.j1 k x0 x1 bt172.1 bt174.1 bt176.1 bt180.1 x1) else (abridgerlaw4_DecimalAdds.j1 k x0 x1 bt172.1 bt174.1 bt176.1 bt180.1 ((⟨#[45]⟩ : ByteArray) ++ x1))) else (none)))))))
def abridgerlaw4_DecimalAdds.j1 : Nat → ByteArray → ByteArray → ByteArray → ByteArray → ByteArray → ByteArray → ByteArray → Option (Bool)
  | 0, _, _, _, _, _, _, _ => none
  | k + 1, x0, x1, x8, x10, x12, x16, x18 => if (x1.size : Int) > 0 then (if 0 < (x1.size : Int) then (abridgerlaw4_DecimalAdds.j2 k x0 x1 x8 x10 x12 x16 x18 ((bt x1 0) == 45)) else (none)) else (abridgerlaw4_DecimalAdds.j2 k x0 x1 x8 x10 x12 x16 x18 false)
def abridgerlaw4_DecimalAdds.j2 : Nat → ByteArray → ByteArray → ByteArray → ByteArray → ByteArray → ByteArray → ByteArray → Bool → Option (Bool)
  | 0, _, _, _, _, _, _, _, _ => none
  | k + 1, x0, x1, x8, x10, x12, x16, x18, x99 => if x99 = true then (if 1 ≤ (x1.size : Int) then ((decimal_Add.f k x8 (x1.extract 1 x1.size)).bind fun bt182 => ((decimal_Add.f k x0 (⟨#[48]⟩ : ByteArray)).bind fun bt184 => (if x8.toList = x10.toList then (if x12.toList = x16.toList then (if bt182.1.toList = x0.toList then (if bt184.1.toList = x0.toList then (if bt184.2 = true then ((decimal_Right.f x8).bind fun t186 => (some t186)) else (some false)) else (some false)) else (some false)) else (some false)) else (some false)))) else (none)) else ((decimal_Add.f k x8 x18).bind fun bt187 => ((decimal_Add.f k x0 (⟨#[48]⟩ : ByteArray)).bind fun bt189 => (if x8.toList = x10.toList then (if x12.toList = x16.toList then (if bt187.1.toList = x0.toList then (if bt189.1.toList = x0.toList then (if bt189.2 = true then ((decimal_Right.f x8).bind fun t191 => (some t191)) else (some false)) else (some false)) else (some false)) else (some false)) else (some false))))
end
def abridgerlaw4_DecimalAdds.f (k : Nat) (a0 : ByteArray) (a1 : ByteArray) (a2 : ByteArray) : Option (Bool) := (abridgerlaw4_alive.f k).bind fun t168 => (if t168 = true then (if (a0.size : Int) > 100 then (abridgerlaw4_DecimalAdds.j0 k a0 a1 a2 t168 true) else (if (a1.size : Int) > 100 then (abridgerlaw4_DecimalAdds.j0 k a0 a1 a2 t168 true) else (if (a2.size : Int) > 100 then (abridgerlaw4_DecimalAdds.j0 k a0 a1 a2 t168 true) else ((abridgerref1_RightDecimal.f k a0).bind fun t169 => (if t169 = true then ((abridgerref1_RightDecimal.f k a1).bind fun t170 => (if t170 = true then ((abridgerref1_RightDecimal.f k a2).bind fun t171 => (abridgerlaw4_DecimalAdds.j0 k a0 a1 a2 t168 (!t171))) else (abridgerlaw4_DecimalAdds.j0 k a0 a1 a2 t168 true))) else (abridgerlaw4_DecimalAdds.j0 k a0 a1 a2 t168 true)))))) else (abridgerlaw4_DecimalAdds.j0 k a0 a1 a2 t168 true))
theorem abridgerlaw4_DecimalAdds.mono_l : ∀ k, (∀ y0 y1 y2 y3 y4, LeO (abridgerlaw4_DecimalAdds.j0 k y0 y1 y2 y3 y4) (abridgerlaw4_DecimalAdds.j0 (k + 1) y0 y1 y2 y3 y4)) ∧ (∀ y0 y1 y2 y3 y4 y5 y6, LeO (abridgerlaw4_DecimalAdds.j1 k y0 y1 y2 y3 y4 y5 y6) (abridgerlaw4_DecimalAdds.j1 (k + 1) y0 y1 y2 y3 y4 y5 y6)) ∧ (∀ y0 y1 y2 y3 y4 y5 y6 y7, LeO (abridgerlaw4_DecimalAdds.j2 k y0 y1 y2 y3 y4 y5 y6 y7) (abridgerlaw4_DecimalAdds.j2 (k + 1) y0 y1 y2 y3 y4 y5 y6 y7))
  | 0 => ⟨fun _ _ _ _ _ r h => by simp [abridgerlaw4_DecimalAdds.j0] at h, fun _ _ _ _ _ _ _ r h => by simp [abridgerlaw4_DecimalAdds.j1] at h, fun _ _ _ _ _ _ _ _ r h => by simp [abridgerlaw4_DecimalAdds.j2] at h⟩
  | k + 1 => by
    obtain ⟨ih0, ih1, ih2⟩ := abridgerlaw4_DecimalAdds.mono_l k
    refine ⟨?_, ?_, ?_⟩
    · intro y0 y1 y2 y3 y4
      unfold abridgerlaw4_DecimalAdds.j0
      repeat' first
      | (with_reducible exact ih0 _ _ _ _ _)
      | (with_reducible exact ih1 _ _ _ _ _ _ _)
      | (with_reducible exact ih2 _ _ _ _ _ _ _ _)
      | (with_reducible exact abridgerlaw4_alive.mono _)
      | (with_reducible exact abridgerref1_RightDecimal.mono _ _)
      | (with_reducible exact decimal_Add.mono _ _ _)
      | (with_reducible exact LeO.refl _)
      | (with_reducible exact LeO.none _)
      | (with_reducible refine LeO.ite ?_ ?_)
      | (with_reducible refine LeO.bind ?_ (fun _ => ?_))
      | exact ih0 _ _ _ _ _
      | exact ih1 _ _ _ _ _ _ _
      | exact ih2 _ _ _ _ _ _ _ _
      | exact abridgerlaw4_alive.mono _
      | exact abridgerref1_RightDecimal.mono _ _
      | exact decimal_Add.mono _ _ _
      | exact LeO.none _
      | refine LeO.ite ?_ ?_
      | refine LeO.bind ?_ (fun _ => ?_)
    · intro y0 y1 y2 y3 y4 y5 y6
      unfold abridgerlaw4_DecimalAdds.j1
      repeat' first
      | (with_reducible exact ih0 _ _ _ _ _)
      | (with_reducible exact ih1 _ _ _ _ _ _ _)
      | (with_reducible exact ih2 _ _ _ _ _ _ _ _)
      | (with_reducible exact abridgerlaw4_alive.mono _)
      | (with_reducible exact abridgerref1_RightDecimal.mono _ _)
      | (with_reducible exact decimal_Add.mono _ _ _)
      | (with_reducible exact LeO.refl _)
      | (with_reducible exact LeO.none _)
      | (with_reducible refine LeO.ite ?_ ?_)
      | (with_reducible refine LeO.bind ?_ (fun _ => ?_))
      | exact ih0 _ _ _ _ _
      | exact ih1 _ _ _ _ _ _ _
      | exact ih2 _ _ _ _ _ _ _ _
      | exact abridgerlaw4_alive.mono _
      | exact abridgerref1_RightDecimal.mono _ _
      | exact decimal_Add.mono _ _ _
      | exact LeO.none _
      | refine LeO.ite ?_ ?_
      | refine LeO.bind ?_ (fun _ => ?_)
    · intro y0 y1 y2 y3 y4 y5 y6 y7
      unfold abridgerlaw4_DecimalAdds.j2
      repeat' first
      | (with_reducible exact ih0 _ _ _ _ _)
      | (with_reducible exact ih1 _ _ _ _ _ _ _)
      | (with_reducible exact ih2 _ _ _ _ _ _ _ _)
      | (with_reducible exact abridgerlaw4_alive.mono _)
      | (with_reducible exact abridgerref1_RightDecimal.mono _ _)
      | (with_reducible exact decimal_Add.mono _ _ _)
      | (with_reducible exact LeO.refl _)
      | (with_reducible exact LeO.none _)
      | (with_reducible refine LeO.ite ?_ ?_)
      | (with_reducible refine LeO.bind ?_ (fun _ => ?_))
      | exact ih0 _ _ _ _ _
      | exact ih1 _ _ _ _ _ _ _
      | exact ih2 _ _ _ _ _ _ _ _
      | exact abridgerlaw4_alive.mono _
      | exact abridgerref1_RightDecimal.mono _ _
      | exact decimal_Add.mono _ _ _
      | exact LeO.none _
      | refine LeO.ite ?_ ?_
      | refine LeO.bind ?_ (fun _ => ?_)
theorem abridgerlaw4_DecimalAdds.mono : ∀ a0 a1 a2 k, LeO (abridgerlaw4_DecimalAdds.f k a0 a1 a2) (abridgerlaw4_DecimalAdds.f (k + 1) a0 a1 a2) := by
  intro a0 a1 a2 k
  obtain ⟨ih0, ih1, ih2⟩ := abridgerlaw4_DecimalAdds.mono_l k
  unfold abridgerlaw4_DecimalAdds.f
  repeat' first
      | (with_reducible exact ih0 _ _ _ _ _)
      | (with_reducible exact ih1 _ _ _ _ _ _ _)
      | (with_reducible exact ih2 _ _ _ _ _ _ _ _)
      | (with_reducible exact abridgerlaw4_alive.mono _)
      | (with_reducible exact abridgerref1_RightDecimal.mono _ _)
      | (with_reducible exact decimal_Add.mono _ _ _)
      | (with_reducible exact LeO.refl _)
      | (with_reducible exact LeO.none _)
      | (with_reducible refine LeO.ite ?_ ?_)
      | (with_reducible refine LeO.bind ?_ (fun _ => ?_))
      | exact ih0 _ _ _ _ _
      | exact ih1 _ _ _ _ _ _ _
      | exact ih2 _ _ _ _ _ _ _ _
      | exact abridgerlaw4_alive.mono _
      | exact abridgerref1_RightDecimal.mono _ _
      | exact decimal_Add.mono _ _ _
      | exact LeO.none _
      | refine LeO.ite ?_ ?_
      | refine LeO.bind ?_ (fun _ => ?_)
set_option maxHeartbeats 8000000 in
set_option maxRecDepth 100000 in
theorem abridgerlaw4_DecimalAdds.calls (k : Nat) (a0 : ByteArray) (a1 : ByteArray) (a2 : ByteArray) (r : Bool) (w : World) (h : abridgerlaw4_DecimalAdds.f k a0 a1 a2 = some r) :
    Calls Tryd.prog 3 #[.string a0, .string a1, .string a2] w fun e w' => e = .returned (.bool r) ∧ Below w.heap.size w w' := by
  have HB := Aside0.mk (Below.refl w.heap.size w)
  have H : ((abridgerlaw4_alive.f k).bind fun t168 => (if t168 = true then (if (a0.size : Int) > 100 then (abridgerlaw4_DecimalAdds.j0 k a0 a1 a2 t168 true) else (if (a1.size : Int) > 100 then (abridgerlaw4_DecimalAdds.j0 k a0 a1 a2 t168 true) else (if (a2.size : Int) > 100 then (abridgerlaw4_DecimalAdds.j0 k a0 a1 a2 t168 true) else ((abridgerref1_RightDecimal.f k a0).bind fun t169 => (if t169 = true then ((abridgerref1_RightDecimal.f k a1).bind fun t170 => (if t170 = true then ((abridgerref1_RightDecimal.f k a2).bind fun t171 => (abridgerlaw4_DecimalAdds.j0 k a0 a1 a2 t168 (!t171))) else (abridgerlaw4_DecimalAdds.j0 k a0 a1 a2 t168 true))) else (abridgerlaw4_DecimalAdds.j0 k a0 a1 a2 t168 true)))))) else (abridgerlaw4_DecimalAdds.j0 k a0 a1 a2 t168 true))) = some r := h
  clear h
  replace H := Option.bind_eq_some_iff.mp H
  obtain ⟨t168, A40, H⟩ := H
  replace H : (if t168 = true then (if (a0.size : Int) > 100 then (abridgerlaw4_DecimalAdds.j0 k a0 a1 a2 t168 true) else (if (a1.size : Int) > 100 then (abridgerlaw4_DecimalAdds.j0 k a0 a1 a2 t168 true) else (if (a2.size : Int) > 100 then (abridgerlaw4_DecimalAdds.j0 k a0 a1 a2 t168 true) else ((abridgerref1_RightDecimal.f k a0).bind fun t169 => (if t169 = true then ((abridgerref1_RightDecimal.f k a1).bind fun t170 => (if t170 = true then ((abridgerref1_RightDecimal.f k a2).bind fun t171 => (abridgerlaw4_DecimalAdds.j0 k a0 a1 a2 t168 (!t171))) else (abridgerlaw4_DecimalAdds.j0 k a0 a1 a2 t168 true))) else (abridgerlaw4_DecimalAdds.j0 k a0 a1 a2 t168 true)))))) else (abridgerlaw4_DecimalAdds.j0 k a0 a1 a2 t168 true)) = some r := H
  have A4 := Aside0.mk A40
  clear A40
  have HC5 := Aside0.mk H
  clear H
  go_enter Tryd.func3, Tryd.ntmps3
  go_upto_region 2 with (first | ((with_reducible refine gate_callee (f := 9) rfl ?_); refine goesL_ (some 23) rfl rfl Tryd.func9 (by kernel_rfl) rfl #[] rfl (by (try simp only [List.map_toArray, List.map_cons, List.map_nil]); first | done | rfl | (simp only [List.length_drop, List.length_take]; rfl)) ?_; (with_reducible refine (abridgerlaw4_alive.calls k  t168 _ A4.out).mono ?_); rintro e w6 ⟨rfl, hb⟩; refine ⟨_, rfl, ?_⟩; have n0_ := Aside0.mk (below_step (by repeat (first | (with_reducible first | exact HB.out | apply below_alloc | apply pw_below_drewN | apply below_drew1) | exact HB.out)) hb); clear HB; have HB := n0_; clear n0_; (try clear hb); (try clear hb2); (try clear hk); (try clear hi)))
  (try simp only [Act.put, List.setIfInBounds_toArray, List.set_cons_zero, List.set_cons_succ])
  go_cut [55] (fun v55 wc => ∃ (kq : Nat) (x55_4 : Bool), v55 = .bool x55_4 ∧ Aside0 (abridgerlaw4_DecimalAdds.j0 kq a0 a1 a2 t168 x55_4 = some r) ∧ Aside0 (kq ≤ k) ∧ Aside0 (Below w.heap.size w wc))
  case first =>
    have H := HC5.out
    clear HC5
    by_cases c7 : t168 = true
    · subst c7
      have H1 : (if (a0.size : Int) > 100 then (abridgerlaw4_DecimalAdds.j0 k a0 a1 a2 true true) else (if (a1.size : Int) > 100 then (abridgerlaw4_DecimalAdds.j0 k a0 a1 a2 true true) else (if (a2.size : Int) > 100 then (abridgerlaw4_DecimalAdds.j0 k a0 a1 a2 true true) else ((abridgerref1_RightDecimal.f k a0).bind fun t169 => (if t169 = true then ((abridgerref1_RightDecimal.f k a1).bind fun t170 => (if t170 = true then ((abridgerref1_RightDecimal.f k a2).bind fun t171 => (abridgerlaw4_DecimalAdds.j0 k a0 a1 a2 true (!t171))) else (abridgerlaw4_DecimalAdds.j0 k a0 a1 a2 true true))) else (abridgerlaw4_DecimalAdds.j0 k a0 a1 a2 true true)))))) = some r := by rw [if_pos rfl] at H; exact H
      clear H
      have H := H1
      clear H1
      by_cases c8 : (a0.size : Int) > 100
      · rw [if_pos c8] at H
        have c8b0 : decide (100 < (a0.size : Int)) = true := decide_eq_true c8
        have c8b1 : decide (100 < a0.size) = true := decide_eq_true (by omega)
        clear c8
        (first | rw [c8b0] | (simp only [i64_w, i32_w]; rw [c8b0]) | skip)
        have H' := Aside0.mk H
        clear H
        go_wp2
        go_meet
        case rel => exact ⟨_, (true), (by first | rfl | (simp; done) | (simp [bne_nil_]; done) | (simp [*]; done)), H', ⟨by first | omega | exact Nat.le_refl _⟩, ⟨by repeat (first | (with_reducible first | exact HB.out | apply below_alloc | apply pw_below_drewN | apply below_drew1) | exact HB.out)⟩⟩
      · rw [if_neg c8] at H
        have c8b0 : decide (100 < (a0.size : Int)) = false := decide_eq_false c8
        have c8b1 : decide (100 < a0.size) = false := decide_eq_false (by omega)
        clear c8
        (first | rw [c8b0] | (simp only [i64_w, i32_w]; rw [c8b0]) | skip)
        by_cases c9 : (a1.size : Int) > 100
        · rw [if_pos c9] at H
          have c9b0 : decide (100 < (a1.size : Int)) = true := decide_eq_true c9
          have c9b1 : decide (100 < a1.size) = true := decide_eq_true (by omega)
          clear c9
          have H' := Aside0.mk H
          clear H
          go_wp2
          go_meet
          case rel => exact ⟨_, (true), (by first | rfl | (simp; done) | (simp [bne_nil_]; done) | (simp [*]; done)), H', ⟨by first | omega | exact Nat.le_refl _⟩, ⟨by repeat (first | (with_reducible first | exact HB.out | apply below_alloc | apply pw_below_drewN | apply below_drew1) | exact HB.out)⟩⟩
        · rw [if_neg c9] at H
          have c9b0 : decide (100 < (a1.size : Int)) = false := decide_eq_false c9
          have c9b1 : decide (100 < a1.size) = false := decide_eq_false (by omega)
          clear c9
          by_cases c10 : (a2.size : Int) > 100
          · rw [if_pos c10] at H
            have c10b0 : decide (100 < (a2.size : Int)) = true := decide_eq_true c10
            have c10b1 : decide (100 < a2.size) = true := decide_eq_true (by omega)
            clear c10
            have H' := Aside0.mk H
            clear H
            go_wp2
            go_meet
            case rel => exact ⟨_, (true), (by first | rfl | (simp; done) | (simp [bne_nil_]; done) | (simp [*]; done)), H', ⟨by first | omega | exact Nat.le_refl _⟩, ⟨by repeat (first | (with_reducible first | exact HB.out | apply below_alloc | apply pw_below_drewN | apply below_drew1) | exact HB.out)⟩⟩
          · rw [if_neg c10] at H
            have c10b0 : decide (100 < (a2.size : Int)) = false := decide_eq_false c10
            have c10b1 : decide (100 < a2.size) = false := decide_eq_false (by omega)
            clear c10
            replace H := Option.bind_eq_some_iff.mp H
            obtain ⟨t169, A110, H⟩ := H
            replace H : (if t169 = true then ((abridgerref1_RightDecimal.f k a1).bind fun t170 => (if t170 = true then ((abridgerref1_RightDecimal.f k a2).bind fun t171 => (abridgerlaw4_DecimalAdds.j0 k a0 a1 a2 true (!t171))) else (abridgerlaw4_DecimalAdds.j0 k a0 a1 a2 true true))) else (abridgerlaw4_DecimalAdds.j0 k a0 a1 a2 true true)) = some r := H
            have A11 := Aside0.mk A110
            clear A110
            by_cases c12 : t169 = true
            · subst c12
              have H1 : ((abridgerref1_RightDecimal.f k a1).bind fun t170 => (if t170 = true then ((abridgerref1_RightDecimal.f k a2).bind fun t171 => (abridgerlaw4_DecimalAdds.j0 k a0 a1 a2 true (!t171))) else (abridgerlaw4_DecimalAdds.j0 k a0 a1 a2 true true))) = some r := by rw [if_pos rfl] at H; exact H
              clear H
              have H := H1
              clear H1
              replace H := Option.bind_eq_some_iff.mp H
              obtain ⟨t170, A130, H⟩ := H
              replace H : (if t170 = true then ((abridgerref1_RightDecimal.f k a2).bind fun t171 => (abridgerlaw4_DecimalAdds.j0 k a0 a1 a2 true (!t171))) else (abridgerlaw4_DecimalAdds.j0 k a0 a1 a2 true true)) = some r := H
              have A13 := Aside0.mk A130
              clear A130
              by_cases c14 : t170 = true
              · subst c14
                have H1 : ((abridgerref1_RightDecimal.f k a2).bind fun t171 => (abridgerlaw4_DecimalAdds.j0 k a0 a1 a2 true (!t171))) = some r := by rw [if_pos rfl] at H; exact H
                clear H
                have H := H1
                clear H1
                replace H := Option.bind_eq_some_iff.mp H
                obtain ⟨t171, A150, H⟩ := H
                replace H : (abridgerlaw4_DecimalAdds.j0 k a0 a1 a2 true (!t171)) = some r := H
                have A15 := Aside0.mk A150
                clear A150
                have H' := Aside0.mk H
                clear H
                go_wp2_with (first | (go_at_call 10; (with_reducible refine (abridgerref1_RightDecimal.calls k a0 true _ A11.out).mono ?_); rintro e w' ⟨rfl, ⟨nd, rfl⟩⟩) | (go_at_call 10; (with_reducible refine (abridgerref1_RightDecimal.calls k a1 true _ A13.out).mono ?_); rintro e w' ⟨rfl, ⟨nd, rfl⟩⟩) | (go_at_call 10; (with_reducible refine (abridgerref1_RightDecimal.calls k a2 t171 _ A15.out).mono ?_); rintro e w' ⟨rfl, ⟨nd, rfl⟩⟩))
                go_meet
                case rel => exact ⟨_, (!t171), (by first | rfl | (simp; done) | (simp [bne_nil_]; done) | (simp [*]; done)), H', ⟨by first | omega | exact Nat.le_refl _⟩, ⟨by repeat (first | (with_reducible first | exact HB.out | apply below_alloc | apply pw_below_drewN | apply below_drew1) | exact HB.out)⟩⟩
              · replace c14 := Bool.eq_false_iff.mpr c14
                subst c14
                have H1 : (abridgerlaw4_DecimalAdds.j0 k a0 a1 a2 true true) = some r := by rw [if_neg (show ¬ (false = true) by decide)] at H; exact H
                clear H
                have H := H1
                clear H1
                have H' := Aside0.mk H
                clear H
                go_wp2_with (first | (go_at_call 10; (with_reducible refine (abridgerref1_RightDecimal.calls k a0 true _ A11.out).mono ?_); rintro e w' ⟨rfl, ⟨nd, rfl⟩⟩) | (go_at_call 10; (with_reducible refine (abridgerref1_RightDecimal.calls k a1 false _ A13.out).mono ?_); rintro e w' ⟨rfl, ⟨nd, rfl⟩⟩))
                go_meet
                case rel => exact ⟨_, (true), (by first | rfl | (simp; done) | (simp [bne_nil_]; done) | (simp [*]; done)), H', ⟨by first | omega | exact Nat.le_refl _⟩, ⟨by repeat (first | (with_reducible first | exact HB.out | apply below_alloc | apply pw_below_drewN | apply below_drew1) | exact HB.out)⟩⟩
            · replace c12 := Bool.eq_false_iff.mpr c12
              subst c12
              have H1 : (abridgerlaw4_DecimalAdds.j0 k a0 a1 a2 true true) = some r := by rw [if_neg (show ¬ (false = true) by decide)] at H; exact H
              clear H
              have H := H1
              clear H1
              have H' := Aside0.mk H
              clear H
              go_wp2_with (first | (go_at_call 10; (with_reducible refine (abridgerref1_RightDecimal.calls k a0 false _ A11.out).mono ?_); rintro e w' ⟨rfl, ⟨nd, rfl⟩⟩))
              go_meet
              case rel => exact ⟨_, (true), (by first | rfl | (simp; done) | (simp [bne_nil_]; done) | (simp [*]; done)), H', ⟨by first | omega | exact Nat.le_refl _⟩, ⟨by repeat (first | (with_reducible first | exact HB.out | apply below_alloc | apply pw_below_drewN | apply below_drew1) | exact HB.out)⟩⟩
    · replace c7 := Bool.eq_false_iff.mpr c7
      subst c7
      have H1 : (abridgerlaw4_DecimalAdds.j0 k a0 a1 a2 false true) = some r := by rw [if_neg (show ¬ (false = true) by decide)] at H; exact H
      clear H
      have H := H1
      clear H1
      have H' := Aside0.mk H
      clear H
      go_wp2
      go_meet
      case rel => exact ⟨_, (true), (by first | rfl | (simp; done) | (simp [bne_nil_]; done) | (simp [*]; done)), H', ⟨by first | omega | exact Nat.le_refl _⟩, ⟨by repeat (first | (with_reducible first | exact HB.out | apply below_alloc | apply pw_below_drewN | apply below_drew1) | exact HB.out)⟩⟩
  case rest =>
    clear HC5
    try clear c1
    try clear p2
    try clear c3
    try clear c7
    try clear c8
    try clear c8b0
    try clear c8b1
    try clear c9
    try clear c9b0
    try clear c9b1
    try clear c10
    try clear c10b0
    try clear c10b1
    try clear c12
    try clear c14
    obtain ⟨kq, x55_4, rfl, HA, HJ4, HB⟩ := hcut
    cases kq with
    | zero => exact absurd HA.out (by simp [abridgerlaw4_DecimalAdds.j0])
    | succ kj4 =>
      have H := HA.out
      clear HA
      simp only [abridgerlaw4_DecimalAdds.j0] at H
      by_cases c16 : x55_4 = true
      · subst c16
        have H1 : (some t168) = some r := by rw [if_pos rfl] at H; exact H
        clear H
        have H := H1
        clear H1
        obtain rfl := Option.some.inj H
        go_wp2
        go_ret
        exact ⟨by first | rfl | (simp [errW_none, errW_some] <;> rfl) | (simp [*, errW_none, errW_some] <;> rfl), by repeat (first | (with_reducible first | exact HB.out | apply below_alloc | apply pw_below_drewN | apply below_drew1) | exact HB.out)⟩
      · replace c16 := Bool.eq_false_iff.mpr c16
        subst c16
        have H1 : ((decimal_Add.f kj4 a0 a1).bind fun bt172 => ((decimal_Add.f kj4 a1 a0).bind fun bt174 => ((decimal_Add.f kj4 bt172.1 a2).bind fun bt176 => ((decimal_Add.f kj4 a1 a2).bind fun bt178 => ((decimal_Add.f kj4 a0 bt178.1).bind fun bt180 => (if 1 + a1.size ≤ 9223372036854775807 then (if a1.toList = ([48] : List UInt8) then (abridgerlaw4_DecimalAdds.j1 kj4 a0 a1 bt172.1 bt174.1 bt176.1 bt180.1 a1) else (abridgerlaw4_DecimalAdds.j1 kj4 a0 a1 bt172.1 bt174.1 bt176.1 bt180.1 ((⟨#[45]⟩ : ByteArray) ++ a1))) else (none))))))) = some r := by rw [if_neg (show ¬ (false = true) by decide)] at H; exact H
        clear H
        have H := H1
        clear H1
        replace H := Option.bind_eq_some_iff.mp H
        obtain ⟨⟨t172, t173⟩, A170, H⟩ := H
        replace H : ((decimal_Add.f kj4 a1 a0).bind fun bt174 => ((decimal_Add.f kj4 t172 a2).bind fun bt176 => ((decimal_Add.f kj4 a1 a2).bind fun bt178 => ((decimal_Add.f kj4 a0 bt178.1).bind fun bt180 => (if 1 + a1.size ≤ 9223372036854775807 then (if a1.toList = ([48] : List UInt8) then (abridgerlaw4_DecimalAdds.j1 kj4 a0 a1 t172 bt174.1 bt176.1 bt180.1 a1) else (abridgerlaw4_DecimalAdds.j1 kj4 a0 a1 t172 bt174.1 bt176.1 bt180.1 ((⟨#[45]⟩ : ByteArray) ++ a1))) else (none)))))) = some r := H
        have A17 := Aside0.mk A170
        clear A170
        replace H := Option.bind_eq_some_iff.mp H
        obtain ⟨⟨t174, t175⟩, A180, H⟩ := H
        replace H : ((decimal_Add.f kj4 t172 a2).bind fun bt176 => ((decimal_Add.f kj4 a1 a2).bind fun bt178 => ((decimal_Add.f kj4 a0 bt178.1).bind fun bt180 => (if 1 + a1.size ≤ 9223372036854775807 then (if a1.toList = ([48] : List UInt8) then (abridgerlaw4_DecimalAdds.j1 kj4 a0 a1 t172 t174 bt176.1 bt180.1 a1) else (abridgerlaw4_DecimalAdds.j1 kj4 a0 a1 t172 t174 bt176.1 bt180.1 ((⟨#[45]⟩ : ByteArray) ++ a1))) else (none))))) = some r := H
        have A18 := Aside0.mk A180
        clear A180
        replace H := Option.bind_eq_some_iff.mp H
        obtain ⟨⟨t176, t177⟩, A190, H⟩ := H
        replace H : ((decimal_Add.f kj4 a1 a2).bind fun bt178 => ((decimal_Add.f kj4 a0 bt178.1).bind fun bt180 => (if 1 + a1.size ≤ 9223372036854775807 then (if a1.toList = ([48] : List UInt8) then (abridgerlaw4_DecimalAdds.j1 kj4 a0 a1 t172 t174 t176 bt180.1 a1) else (abridgerlaw4_DecimalAdds.j1 kj4 a0 a1 t172 t174 t176 bt180.1 ((⟨#[45]⟩ : ByteArray) ++ a1))) else (none)))) = some r := H
        have A19 := Aside0.mk A190
        clear A190
        replace H := Option.bind_eq_some_iff.mp H
        obtain ⟨⟨t178, t179⟩, A200, H⟩ := H
        replace H : ((decimal_Add.f kj4 a0 t178).bind fun bt180 => (if 1 + a1.size ≤ 9223372036854775807 then (if a1.toList = ([48] : List UInt8) then (abridgerlaw4_DecimalAdds.j1 kj4 a0 a1 t172 t174 t176 bt180.1 a1) else (abridgerlaw4_DecimalAdds.j1 kj4 a0 a1 t172 t174 t176 bt180.1 ((⟨#[45]⟩ : ByteArray) ++ a1))) else (none))) = some r := H
        have A20 := Aside0.mk A200
        clear A200
        replace H := Option.bind_eq_some_iff.mp H
        obtain ⟨⟨t180, t181⟩, A210, H⟩ := H
        replace H : (if 1 + a1.size ≤ 9223372036854775807 then (if a1.toList = ([48] : List UInt8) then (abridgerlaw4_DecimalAdds.j1 kj4 a0 a1 t172 t174 t176 t180 a1) else (abridgerlaw4_DecimalAdds.j1 kj4 a0 a1 t172 t174 t176 t180 ((⟨#[45]⟩ : ByteArray) ++ a1))) else (none)) = some r := H
        have A21 := Aside0.mk A210
        clear A210
        by_cases c22 : 1 + a1.size ≤ 9223372036854775807
        · rw [if_pos c22] at H
          have c22b0 := eq_true c22
          have c22b1 : decide (1 + a1.size ≤ 9223372036854775807) = true := decide_eq_true c22
          try have c22b2 : (9223372036854775807 < 1 + a1.size) = False := eq_false (Nat.not_lt.2 c22)
          have HC23 := Aside0.mk H
          clear H
          go_upto_if 90 with (first | ((with_reducible refine gate_callee (f := 11) rfl ?_); refine goesL_ (some 60) rfl rfl Tryd.func11 (by kernel_rfl) rfl #[.string a0, .string a1] rfl (by (try simp only [List.map_toArray, List.map_cons, List.map_nil]); first | done | rfl | (simp only [List.length_drop, List.length_take]; rfl)) ?_; (with_reducible refine (decimal_Add.calls kj4 a0 a1 t172 t173 _ A17.out).mono ?_); rintro e w24 ⟨rfl, hb⟩; refine ⟨_, rfl, ?_⟩; have n0_ := Aside0.mk (below_step (by repeat (first | (with_reducible first | exact HB.out | apply below_alloc | apply pw_below_drewN | apply below_drew1) | exact HB.out)) hb); clear HB; have HB := n0_; clear n0_; (try clear hb); (try clear hb2); (try clear hk); (try clear hi)) | ((with_reducible refine gate_callee (f := 11) rfl ?_); refine goesL_ (some 66) rfl rfl Tryd.func11 (by kernel_rfl) rfl #[.string a1, .string a0] rfl (by (try simp only [List.map_toArray, List.map_cons, List.map_nil]); first | done | rfl | (simp only [List.length_drop, List.length_take]; rfl)) ?_; (with_reducible refine (decimal_Add.calls kj4 a1 a0 t174 t175 _ A18.out).mono ?_); rintro e w25 ⟨rfl, hb⟩; refine ⟨_, rfl, ?_⟩; have n0_ := Aside0.mk (below_step (by repeat (first | (with_reducible first | exact HB.out | apply below_alloc | apply pw_below_drewN | apply below_drew1) | exact HB.out)) hb); clear HB; have HB := n0_; clear n0_; (try clear hb); (try clear hb2); (try clear hk); (try clear hi)) | ((with_reducible refine gate_callee (f := 11) rfl ?_); refine goesL_ (some 72) rfl rfl Tryd.func11 (by kernel_rfl) rfl #[.string t172, .string a2] rfl (by (try simp only [List.map_toArray, List.map_cons, List.map_nil]); first | done | rfl | (simp only [List.length_drop, List.length_take]; rfl)) ?_; (with_reducible refine (decimal_Add.calls kj4 t172 a2 t176 t177 _ A19.out).mono ?_); rintro e w26 ⟨rfl, hb⟩; refine ⟨_, rfl, ?_⟩; have n0_ := Aside0.mk (below_step (by repeat (first | (with_reducible first | exact HB.out | apply below_alloc | apply pw_below_drewN | apply below_drew1) | exact HB.out)) hb); clear HB; have HB := n0_; clear n0_; (try clear hb); (try clear hb2); (try clear hk); (try clear hi)) | ((with_reducible refine gate_callee (f := 11) rfl ?_); refine goesL_ (some 78) rfl rfl Tryd.func11 (by kernel_rfl) rfl #[.string a1, .string a2] rfl (by (try simp only [List.map_toArray, List.map_cons, List.map_nil]); first | done | rfl | (simp only [List.length_drop, List.length_take]; rfl)) ?_; (with_reducible refine (decimal_Add.calls kj4 a1 a2 t178 t179 _ A20.out).mono ?_); rintro e w27 ⟨rfl, hb⟩; refine ⟨_, rfl, ?_⟩; have n0_ := Aside0.mk (below_step (by repeat (first | (with_reducible first | exact HB.out | apply below_alloc | apply pw_below_drewN | apply below_drew1) | exact HB.out)) hb); clear HB; have HB := n0_; clear n0_; (try clear hb); (try clear hb2); (try clear hk); (try clear hi)) | ((with_reducible refine gate_callee (f := 11) rfl ?_); refine goesL_ (some 84) rfl rfl Tryd.func11 (by kernel_rfl) rfl #[.string a0, .string t178] rfl (by (try simp only [List.map_toArray, List.map_cons, List.map_nil]); first | done | rfl | (simp only [List.length_drop, List.length_take]; rfl)) ?_; (with_reducible refine (decimal_Add.calls kj4 a0 t178 t180 t181 _ A21.out).mono ?_); rintro e w28 ⟨rfl, hb⟩; refine ⟨_, rfl, ?_⟩; have n0_ := Aside0.mk (below_step (by repeat (first | (with_reducible first | exact HB.out | apply below_alloc | apply pw_below_drewN | apply below_drew1) | exact HB.out)) hb); clear HB; have HB := n0_; clear n0_; (try clear hb); (try clear hb2); (try clear hk); (try clear hi)))
          (try simp only [Act.put, List.setIfInBounds_toArray, List.set_cons_zero, List.set_cons_succ])
          go_cut [18] (fun v18 wc => ∃ (kq : Nat) (x18_22 : ByteArray), v18 = .string x18_22 ∧ Aside0 (abridgerlaw4_DecimalAdds.j1 kq a0 a1 t172 t174 t176 t180 x18_22 = some r) ∧ Aside0 (kq ≤ kj4) ∧ Aside0 (Below w.heap.size w wc))
          case first =>
            have H := HC23.out
            clear HC23
            by_cases c29 : a1.toList = ([48] : List UInt8)
            · rw [if_pos c29] at H
              have c29b0 : (a1.toList == ([48] : List UInt8)) = true := beq_iff_eq.mpr c29
              have c29b1 : (a1.toList != ([48] : List UInt8)) = false := bne_eq_false_iff_eq.mpr c29
              clear c29
              (first | rw [c29b0] | (simp only [i64_w, i32_w]; rw [c29b0]) | skip)
              have H' := Aside0.mk H
              clear H
              go_wp2
              go_meet
              case rel => exact ⟨_, (a1), (by first | rfl | (simp; done) | (simp [bne_nil_]; done) | (simp [*]; done)), H', ⟨by have := HJ4.out; first | omega | exact Nat.le_refl _⟩, ⟨by repeat (first | (with_reducible first | exact HB.out | apply below_alloc | apply pw_below_drewN | apply below_drew1) | exact HB.out)⟩⟩
            · rw [if_neg c29] at H
              have c29b0 : (a1.toList == ([48] : List UInt8)) = false := beq_eq_false_iff_ne.mpr c29
              have c29b1 : (a1.toList != ([48] : List UInt8)) = true := bne_iff_ne.mpr c29
              (first | rw [c29b0] | (simp only [i64_w, i32_w]; rw [c29b0]) | skip)
              have H' := Aside0.mk H
              clear H
              go_wp2
              go_meet
              case rel => exact ⟨_, ((⟨#[45]⟩ : ByteArray) ++ a1), (by first | rfl | (simp; done) | (simp [bne_nil_]; done) | (simp [*]; done)), H', ⟨by have := HJ4.out; first | omega | exact Nat.le_refl _⟩, ⟨by repeat (first | (with_reducible first | exact HB.out | apply below_alloc | apply pw_below_drewN | apply below_drew1) | exact HB.out)⟩⟩
          case rest =>
            clear HC23
            try clear c1
            try clear c2
            try clear p2
            try clear c3
            try clear c7
            try clear c8
            try clear c8b0
            try clear c8b1
            try clear c9
            try clear c9b0
            try clear c9b1
            try clear c10
            try clear c10b0
            try clear c10b1
            try clear c11
            try clear c12
            try clear c14
            try clear c16
            try clear c22
            try clear c22b0
            try clear c22b1
            try clear c22b2
            try clear c29
            try clear c29b0
            try clear c29b1
            try clear p2
            obtain ⟨kq, x18_22, rfl, HA, HJ22, HB⟩ := hcut
            cases kq with
            | zero => exact absurd HA.out (by simp [abridgerlaw4_DecimalAdds.j1])
            | succ kj22 =>
              have H := HA.out
              clear HA
              simp only [abridgerlaw4_DecimalAdds.j1] at H
              have HC30 := Aside0.mk H
              clear H
              go_upto_region 12 with (fail)
              go_cut [99] (fun v99 wc => ∃ (kq : Nat) (x99_29 : Bool), v99 = .bool x99_29 ∧ Aside0 (abridgerlaw4_DecimalAdds.j2 kq a0 a1 t172 t174 t176 t180 x18_22 x99_29 = some r) ∧ Aside0 (kq ≤ kj22) ∧ Aside0 (Below w.heap.size w wc))
              case first =>
                have H := HC30.out
                clear HC30
                by_cases c31 : (a1.size : Int) > 0
                · rw [if_pos c31] at H
                  have c31b0 : decide (0 < (a1.size : Int)) = true := decide_eq_true c31
                  have c31b1 : decide (0 < a1.size) = true := decide_eq_true (by omega)
                  clear c31
                  (first | rw [c31b0] | (simp only [i64_w, i32_w]; rw [c31b0]) | skip)
                  by_cases c32 : 0 < (a1.size : Int)
                  · rw [if_pos c32] at H
                    have c32b0 : decide (0 < (a1.size : Int)) = true := decide_eq_true c32
                    have c32b1 : decide (0 < a1.size) = true := decide_eq_true (by omega)
                    clear c32
                    have H' := Aside0.mk H
                    clear H
                    have p33 : 0 ≤ (0 : Int) := (by omega)
                    have q33 : 0 < a1.size := (by have : (0 : Int) < (a1.size : Int) := of_decide_eq_true (by first | (with_reducible assumption) | assumption); omega)
                    have hx33 : ∀ h : 0 < a1.size, ((a1[0]'h).toNat : Int) = bt a1 0 := bt_at a1 0
                    clear p33
                    have qi33 : (0 < (a1.size : Int)) = True := eq_true (of_decide_eq_true (by first | (with_reducible assumption) | assumption))
                    replace q33 := eq_true q33
                    go_wp2
                    go_meet
                    case rel => exact ⟨_, (((bt a1 0) == 45)), (by first | rfl | (simp; done) | (simp [bne_nil_]; done) | (simp [*]; done)), H', ⟨by have := HJ4.out; have := HJ22.out; first | omega | exact Nat.le_refl _⟩, ⟨by repeat (first | (with_reducible first | exact HB.out | apply below_alloc | apply pw_below_drewN | apply below_drew1) | exact HB.out)⟩⟩
                  · rw [if_neg c32] at H
                    exact absurd H (by simp)
                · rw [if_neg c31] at H
                  have c31b0 : decide (0 < (a1.size : Int)) = false := decide_eq_false c31
                  have c31b1 : decide (0 < a1.size) = false := decide_eq_false (by omega)
                  clear c31
                  (first | rw [c31b0] | (simp only [i64_w, i32_w]; rw [c31b0]) | skip)
                  have H' := Aside0.mk H
                  clear H
                  go_wp2
                  go_meet
                  case rel => exact ⟨_, (false), (by first | rfl | (simp; done) | (simp [bne_nil_]; done) | (simp [*]; done)), H', ⟨by have := HJ4.out; have := HJ22.out; first | omega | exact Nat.le_refl _⟩, ⟨by repeat (first | (with_reducible first | exact HB.out | apply below_alloc | apply pw_below_drewN | apply below_drew1) | exact HB.out)⟩⟩
              case rest =>
                clear HC30
                try clear c1
                try clear c2
                try clear p2
                try clear c3
                try clear p3
                try clear q3
                try clear hx3
                try clear qi3
                try clear c7
                try clear c8
                try clear c8b0
                try clear c8b1
                try clear c9
                try clear c9b0
                try clear c9b1
                try clear c10
                try clear c10b0
                try clear c10b1
                try clear c11
                try clear c12
                try clear c14
                try clear c16
                try clear c22
                try clear c22b0
                try clear c22b1
                try clear c22b2
                try clear c29
                try clear c29b0
                try clear c29b1
                try clear c31
                try clear c31b0
                try clear c31b1
                try clear c32
                try clear c32b0
                try clear c32b1
                try clear p33
                try clear q33
                try clear hx33
                try clear qi33
                try clear p2
                try clear p33
                try clear q33
                obtain ⟨kq, x99_29, rfl, HA, HJ29, HB⟩ := hcut
                cases kq with
                | zero => exact absurd HA.out (by simp [abridgerlaw4_DecimalAdds.j2])
                | succ kj29 =>
                  have H := HA.out
                  clear HA
                  simp only [abridgerlaw4_DecimalAdds.j2] at H
                  by_cases c34 : x99_29 = true
                  · subst c34
                    have H1 : (if 1 ≤ (a1.size : Int) then ((decimal_Add.f kj29 t172 (a1.extract 1 a1.size)).bind fun bt182 => ((decimal_Add.f kj29 a0 (⟨#[48]⟩ : ByteArray)).bind fun bt184 => (if t172.toList = t174.toList then (if t176.toList = t180.toList then (if bt182.1.toList = a0.toList then (if bt184.1.toList = a0.toList then (if bt184.2 = true then ((decimal_Right.f t172).bind fun t186 => (some t186)) else (some false)) else (some false)) else (some false)) else (some false)) else (some false)))) else (none)) = some r := by rw [if_pos rfl] at H; exact H
                    clear H
                    have H := H1
                    clear H1
                    by_cases c35 : 1 ≤ (a1.size : Int)
                    · rw [if_pos c35] at H
                      have c35b0 := eq_true c35
                      have c35b1 : decide (1 ≤ (a1.size : Int)) = true := decide_eq_true c35
                      clear c35
                      replace H := Option.bind_eq_some_iff.mp H
                      obtain ⟨⟨t182, t183⟩, A360, H⟩ := H
                      replace H : ((decimal_Add.f kj29 a0 (⟨#[48]⟩ : ByteArray)).bind fun bt184 => (if t172.toList = t174.toList then (if t176.toList = t180.toList then (if t182.toList = a0.toList then (if bt184.1.toList = a0.toList then (if bt184.2 = true then ((decimal_Right.f t172).bind fun t186 => (some t186)) else (some false)) else (some false)) else (some false)) else (some false)) else (some false))) = some r := H
                      have A36 := Aside0.mk A360
                      clear A360
                      replace H := Option.bind_eq_some_iff.mp H
                      obtain ⟨⟨t184, t185⟩, A370, H⟩ := H
                      replace H : (if t172.toList = t174.toList then (if t176.toList = t180.toList then (if t182.toList = a0.toList then (if t184.toList = a0.toList then (if t185 = true then ((decimal_Right.f t172).bind fun t186 => (some t186)) else (some false)) else (some false)) else (some false)) else (some false)) else (some false)) = some r := H
                      have A37 := Aside0.mk A370
                      clear A370
                      by_cases c38 : t172.toList = t174.toList
                      · rw [if_pos c38] at H
                        have c38b0 : (t172.toList == t174.toList) = true := beq_iff_eq.mpr c38
                        have c38b1 : (t172.toList != t174.toList) = false := bne_eq_false_iff_eq.mpr c38
                        clear c38
                        by_cases c39 : t176.toList = t180.toList
                        · rw [if_pos c39] at H
                          have c39b0 : (t176.toList == t180.toList) = true := beq_iff_eq.mpr c39
                          have c39b1 : (t176.toList != t180.toList) = false := bne_eq_false_iff_eq.mpr c39
                          clear c39
                          by_cases c40 : t182.toList = a0.toList
                          · rw [if_pos c40] at H
                            have c40b0 : (t182.toList == a0.toList) = true := beq_iff_eq.mpr c40
                            have c40b1 : (t182.toList != a0.toList) = false := bne_eq_false_iff_eq.mpr c40
                            clear c40
                            by_cases c41 : t184.toList = a0.toList
                            · rw [if_pos c41] at H
                              have c41b0 : (t184.toList == a0.toList) = true := beq_iff_eq.mpr c41
                              have c41b1 : (t184.toList != a0.toList) = false := bne_eq_false_iff_eq.mpr c41
                              clear c41
                              by_cases c42 : t185 = true
                              · subst c42
                                have H1 : ((decimal_Right.f t172).bind fun t186 => (some t186)) = some r := by rw [if_pos rfl] at H; exact H
                                clear H
                                have H := H1
                                clear H1
                                replace H := Option.bind_eq_some_iff.mp H
                                obtain ⟨t186, A430, H⟩ := H
                                replace H : (some t186) = some r := H
                                have A43 := Aside0.mk A430
                                clear A430
                                obtain rfl := Option.some.inj H
                                go_wp2_with (first | ((with_reducible refine gate_callee (f := 11) rfl ?_); refine goesL_ (some 105) rfl rfl Tryd.func11 (by kernel_rfl) rfl #[.string t172, .string (a1.extract 1 a1.size)] rfl (by (try simp only [List.map_toArray, List.map_cons, List.map_nil]); first | done | rfl | (simp only [List.length_drop, List.length_take]; rfl)) ?_; (with_reducible refine (decimal_Add.calls kj29 t172 (a1.extract 1 a1.size) t182 t183 _ A36.out).mono ?_); rintro e w44 ⟨rfl, hb⟩; refine ⟨_, rfl, ?_⟩; have n0_ := Aside0.mk (below_step (by repeat (first | (with_reducible first | exact HB.out | apply below_alloc | apply pw_below_drewN | apply below_drew1) | exact HB.out)) hb); clear HB; have HB := n0_; clear n0_; (try clear hb); (try clear hb2); (try clear hk); (try clear hi)) | ((with_reducible refine gate_callee (f := 11) rfl ?_); refine goesL_ (some 110) rfl rfl Tryd.func11 (by kernel_rfl) rfl #[.string a0, .string (⟨#[48]⟩ : ByteArray)] rfl (by (try simp only [List.map_toArray, List.map_cons, List.map_nil]); first | done | rfl | (simp only [List.length_drop, List.length_take]; rfl)) ?_; (with_reducible refine (decimal_Add.calls kj29 a0 (⟨#[48]⟩ : ByteArray) t184 true _ A37.out).mono ?_); rintro e w45 ⟨rfl, hb⟩; refine ⟨_, rfl, ?_⟩; have n0_ := Aside0.mk (below_step (by repeat (first | (with_reducible first | exact HB.out | apply below_alloc | apply pw_below_drewN | apply below_drew1) | exact HB.out)) hb); clear HB; have HB := n0_; clear n0_; (try clear hb); (try clear hb2); (try clear hk); (try clear hi)) | (go_at_call 12; (with_reducible refine (decimal_Right.calls t172 t186 _ A43.out).mono ?_); rintro e w46 ⟨rfl, hb⟩; have n0_ := Aside0.mk (below_step (by repeat (first | (with_reducible first | exact HB.out | apply below_alloc | apply pw_below_drewN | apply below_drew1) | exact HB.out)) hb); clear HB; have HB := n0_; clear n0_; (try clear hb); (try clear hb2); (try clear hk); (try clear hi)))
                                go_ret
                                exact ⟨by first | rfl | (simp [errW_none, errW_some] <;> rfl) | (simp [*, errW_none, errW_some] <;> rfl), by repeat (first | (with_reducible first | exact HB.out | apply below_alloc | apply pw_below_drewN | apply below_drew1) | exact HB.out)⟩
                              · replace c42 := Bool.eq_false_iff.mpr c42
                                subst c42
                                have H1 : (some false) = some r := by rw [if_neg (show ¬ (false = true) by decide)] at H; exact H
                                clear H
                                have H := H1
                                clear H1
                                obtain rfl := Option.some.inj H
                                go_wp2_with (first | ((with_reducible refine gate_callee (f := 11) rfl ?_); refine goesL_ (some 105) rfl rfl Tryd.func11 (by kernel_rfl) rfl #[.string t172, .string (a1.extract 1 a1.size)] rfl (by (try simp only [List.map_toArray, List.map_cons, List.map_nil]); first | done | rfl | (simp only [List.length_drop, List.length_take]; rfl)) ?_; (with_reducible refine (decimal_Add.calls kj29 t172 (a1.extract 1 a1.size) t182 t183 _ A36.out).mono ?_); rintro e w47 ⟨rfl, hb⟩; refine ⟨_, rfl, ?_⟩; have n0_ := Aside0.mk (below_step (by repeat (first | (with_reducible first | exact HB.out | apply below_alloc | apply pw_below_drewN | apply below_drew1) | exact HB.out)) hb); clear HB; have HB := n0_; clear n0_; (try clear hb); (try clear hb2); (try clear hk); (try clear hi)) | ((with_reducible refine gate_callee (f := 11) rfl ?_); refine goesL_ (some 110) rfl rfl Tryd.func11 (by kernel_rfl) rfl #[.string a0, .string (⟨#[48]⟩ : ByteArray)] rfl (by (try simp only [List.map_toArray, List.map_cons, List.map_nil]); first | done | rfl | (simp only [List.length_drop, List.length_take]; rfl)) ?_; (with_reducible refine (decimal_Add.calls kj29 a0 (⟨#[48]⟩ : ByteArray) t184 false _ A37.out).mono ?_); rintro e w48 ⟨rfl, hb⟩; refine ⟨_, rfl, ?_⟩; have n0_ := Aside0.mk (below_step (by repeat (first | (with_reducible first | exact HB.out | apply below_alloc | apply pw_below_drewN | apply below_drew1) | exact HB.out)) hb); clear HB; have HB := n0_; clear n0_; (try clear hb); (try clear hb2); (try clear hk); (try clear hi)))
                                go_ret
                                exact ⟨by first | rfl | (simp [errW_none, errW_some] <;> rfl) | (simp [*, errW_none, errW_some] <;> rfl), by repeat (first | (with_reducible first | exact HB.out | apply below_alloc | apply pw_below_drewN | apply below_drew1) | exact HB.out)⟩
                            · rw [if_neg c41] at H
                              have c41b0 : (t184.toList == a0.toList) = false := beq_eq_false_iff_ne.mpr c41
                              have c41b1 : (t184.toList != a0.toList) = true := bne_iff_ne.mpr c41
                              obtain rfl := Option.some.inj H
                              go_wp2_with (first | ((with_reducible refine gate_callee (f := 11) rfl ?_); refine goesL_ (some 105) rfl rfl Tryd.func11 (by kernel_rfl) rfl #[.string t172, .string (a1.extract 1 a1.size)] rfl (by (try simp only [List.map_toArray, List.map_cons, List.map_nil]); first | done | rfl | (simp only [List.length_drop, List.length_take]; rfl)) ?_; (with_reducible refine (decimal_Add.calls kj29 t172 (a1.extract 1 a1.size) t182 t183 _ A36.out).mono ?_); rintro e w49 ⟨rfl, hb⟩; refine ⟨_, rfl, ?_⟩; have n0_ := Aside0.mk (below_step (by repeat (first | (with_reducible first | exact HB.out | apply below_alloc | apply pw_below_drewN | apply below_drew1) | exact HB.out)) hb); clear HB; have HB := n0_; clear n0_; (try clear hb); (try clear hb2); (try clear hk); (try clear hi)) | ((with_reducible refine gate_callee (f := 11) rfl ?_); refine goesL_ (some 110) rfl rfl Tryd.func11 (by kernel_rfl) rfl #[.string a0, .string (⟨#[48]⟩ : ByteArray)] rfl (by (try simp only [List.map_toArray, List.map_cons, List.map_nil]); first | done | rfl | (simp only [List.length_drop, List.length_take]; rfl)) ?_; (with_reducible refine (decimal_Add.calls kj29 a0 (⟨#[48]⟩ : ByteArray) t184 t185 _ A37.out).mono ?_); rintro e w50 ⟨rfl, hb⟩; refine ⟨_, rfl, ?_⟩; have n0_ := Aside0.mk (below_step (by repeat (first | (with_reducible first | exact HB.out | apply below_alloc | apply pw_below_drewN | apply below_drew1) | exact HB.out)) hb); clear HB; have HB := n0_; clear n0_; (try clear hb); (try clear hb2); (try clear hk); (try clear hi)))
                              go_ret
                              exact ⟨by first | rfl | (simp [errW_none, errW_some] <;> rfl) | (simp [*, errW_none, errW_some] <;> rfl), by repeat (first | (with_reducible first | exact HB.out | apply below_alloc | apply pw_below_drewN | apply below_drew1) | exact HB.out)⟩
                          · rw [if_neg c40] at H
                            have c40b0 : (t182.toList == a0.toList) = false := beq_eq_false_iff_ne.mpr c40
                            have c40b1 : (t182.toList != a0.toList) = true := bne_iff_ne.mpr c40
                            obtain rfl := Option.some.inj H
                            go_wp2_with (first | ((with_reducible refine gate_callee (f := 11) rfl ?_); refine goesL_ (some 105) rfl rfl Tryd.func11 (by kernel_rfl) rfl #[.string t172, .string (a1.extract 1 a1.size)] rfl (by (try simp only [List.map_toArray, List.map_cons, List.map_nil]); first | done | rfl | (simp only [List.length_drop, List.length_take]; rfl)) ?_; (with_reducible refine (decimal_Add.calls kj29 t172 (a1.extract 1 a1.size) t182 t183 _ A36.out).mono ?_); rintro e w51 ⟨rfl, hb⟩; refine ⟨_, rfl, ?_⟩; have n0_ := Aside0.mk (below_step (by repeat (first | (with_reducible first | exact HB.out | apply below_alloc | apply pw_below_drewN | apply below_drew1) | exact HB.out)) hb); clear HB; have HB := n0_; clear n0_; (try clear hb); (try clear hb2); (try clear hk); (try clear hi)) | ((with_reducible refine gate_callee (f := 11) rfl ?_); refine goesL_ (some 110) rfl rfl Tryd.func11 (by kernel_rfl) rfl #[.string a0, .string (⟨#[48]⟩ : ByteArray)] rfl (by (try simp only [List.map_toArray, List.map_cons, List.map_nil]); first | done | rfl | (simp only [List.length_drop, List.length_take]; rfl)) ?_; (with_reducible refine (decimal_Add.calls kj29 a0 (⟨#[48]⟩ : ByteArray) t184 t185 _ A37.out).mono ?_); rintro e w52 ⟨rfl, hb⟩; refine ⟨_, rfl, ?_⟩; have n0_ := Aside0.mk (below_step (by repeat (first | (with_reducible first | exact HB.out | apply below_alloc | apply pw_below_drewN | apply below_drew1) | exact HB.out)) hb); clear HB; have HB := n0_; clear n0_; (try clear hb); (try clear hb2); (try clear hk); (try clear hi)))
                            go_ret
                            exact ⟨by first | rfl | (simp [errW_none, errW_some] <;> rfl) | (simp [*, errW_none, errW_some] <;> rfl), by repeat (first | (with_reducible first | exact HB.out | apply below_alloc | apply pw_below_drewN | apply below_drew1) | exact HB.out)⟩
                        · rw [if_neg c39] at H
                          have c39b0 : (t176.toList == t180.toList) = false := beq_eq_false_iff_ne.mpr c39
                          have c39b1 : (t176.toList != t180.toList) = true := bne_iff_ne.mpr c39
                          obtain rfl := Option.some.inj H
                          go_wp2_with (first | ((with_reducible refine gate_callee (f := 11) rfl ?_); refine goesL_ (some 105) rfl rfl Tryd.func11 (by kernel_rfl) rfl #[.string t172, .string (a1.extract 1 a1.size)] rfl (by (try simp only [List.map_toArray, List.map_cons, List.map_nil]); first | done | rfl | (simp only [List.length_drop, List.length_take]; rfl)) ?_; (with_reducible refine (decimal_Add.calls kj29 t172 (a1.extract 1 a1.size) t182 t183 _ A36.out).mono ?_); rintro e w53 ⟨rfl, hb⟩; refine ⟨_, rfl, ?_⟩; have n0_ := Aside0.mk (below_step (by repeat (first | (with_reducible first | exact HB.out | apply below_alloc | apply pw_below_drewN | apply below_drew1) | exact HB.out)) hb); clear HB; have HB := n0_; clear n0_; (try clear hb); (try clear hb2); (try clear hk); (try clear hi)) | ((with_reducible refine gate_callee (f := 11) rfl ?_); refine goesL_ (some 110) rfl rfl Tryd.func11 (by kernel_rfl) rfl #[.string a0, .string (⟨#[48]⟩ : ByteArray)] rfl (by (try simp only [List.map_toArray, List.map_cons, List.map_nil]); first | done | rfl | (simp only [List.length_drop, List.length_take]; rfl)) ?_; (with_reducible refine (decimal_Add.calls kj29 a0 (⟨#[48]⟩ : ByteArray) t184 t185 _ A37.out).mono ?_); rintro e w54 ⟨rfl, hb⟩; refine ⟨_, rfl, ?_⟩; have n0_ := Aside0.mk (below_step (by repeat (first | (with_reducible first | exact HB.out | apply below_alloc | apply pw_below_drewN | apply below_drew1) | exact HB.out)) hb); clear HB; have HB := n0_; clear n0_; (try clear hb); (try clear hb2); (try clear hk); (try clear hi)))
                          go_ret
                          exact ⟨by first | rfl | (simp [errW_none, errW_some] <;> rfl) | (simp [*, errW_none, errW_some] <;> rfl), by repeat (first | (with_reducible first | exact HB.out | apply below_alloc | apply pw_below_drewN | apply below_drew1) | exact HB.out)⟩
                      · rw [if_neg c38] at H
                        have c38b0 : (t172.toList == t174.toList) = false := beq_eq_false_iff_ne.mpr c38
                        have c38b1 : (t172.toList != t174.toList) = true := bne_iff_ne.mpr c38
                        obtain rfl := Option.some.inj H
                        go_wp2_with (first | ((with_reducible refine gate_callee (f := 11) rfl ?_); refine goesL_ (some 105) rfl rfl Tryd.func11 (by kernel_rfl) rfl #[.string t172, .string (a1.extract 1 a1.size)] rfl (by (try simp only [List.map_toArray, List.map_cons, List.map_nil]); first | done | rfl | (simp only [List.length_drop, List.length_take]; rfl)) ?_; (with_reducible refine (decimal_Add.calls kj29 t172 (a1.extract 1 a1.size) t182 t183 _ A36.out).mono ?_); rintro e w55 ⟨rfl, hb⟩; refine ⟨_, rfl, ?_⟩; have n0_ := Aside0.mk (below_step (by repeat (first | (with_reducible first | exact HB.out | apply below_alloc | apply pw_below_drewN | apply below_drew1) | exact HB.out)) hb); clear HB; have HB := n0_; clear n0_; (try clear hb); (try clear hb2); (try clear hk); (try clear hi)) | ((with_reducible refine gate_callee (f := 11) rfl ?_); refine goesL_ (some 110) rfl rfl Tryd.func11 (by kernel_rfl) rfl #[.string a0, .string (⟨#[48]⟩ : ByteArray)] rfl (by (try simp only [List.map_toArray, List.map_cons, List.map_nil]); first | done | rfl | (simp only [List.length_drop, List.length_take]; rfl)) ?_; (with_reducible refine (decimal_Add.calls kj29 a0 (⟨#[48]⟩ : ByteArray) t184 t185 _ A37.out).mono ?_); rintro e w56 ⟨rfl, hb⟩; refine ⟨_, rfl, ?_⟩; have n0_ := Aside0.mk (below_step (by repeat (first | (with_reducible first | exact HB.out | apply below_alloc | apply pw_below_drewN | apply below_drew1) | exact HB.out)) hb); clear HB; have HB := n0_; clear n0_; (try clear hb); (try clear hb2); (try clear hk); (try clear hi)))
                        go_ret
                        exact ⟨by first | rfl | (simp [errW_none, errW_some] <;> rfl) | (simp [*, errW_none, errW_some] <;> rfl), by repeat (first | (with_reducible first | exact HB.out | apply below_alloc | apply pw_below_drewN | apply below_drew1) | exact HB.out)⟩
                    · rw [if_neg c35] at H
                      exact absurd H (by simp)
                  · replace c34 := Bool.eq_false_iff.mpr c34
                    subst c34
                    have H1 : ((decimal_Add.f kj29 t172 x18_22).bind fun bt187 => ((decimal_Add.f kj29 a0 (⟨#[48]⟩ : ByteArray)).bind fun bt189 => (if t172.toList = t174.toList then (if t176.toList = t180.toList then (if bt187.1.toList = a0.toList then (if bt189.1.toList = a0.toList then (if bt189.2 = true then ((decimal_Right.f t172).bind fun t191 => (some t191)) else (some false)) else (some false)) else (some false)) else (some false)) else (some false)))) = some r := by rw [if_neg (show ¬ (false = true) by decide)] at H; exact H
                    clear H
                    have H := H1
                    clear H1
                    replace H := Option.bind_eq_some_iff.mp H
                    obtain ⟨⟨t187, t188⟩, A570, H⟩ := H
                    replace H : ((decimal_Add.f kj29 a0 (⟨#[48]⟩ : ByteArray)).bind fun bt189 => (if t172.toList = t174.toList then (if t176.toList = t180.toList then (if t187.toList = a0.toList then (if bt189.1.toList = a0.toList then (if bt189.2 = true then ((decimal_Right.f t172).bind fun t191 => (some t191)) else (some false)) else (some false)) else (some false)) else (some false)) else (some false))) = some r := H
                    have A57 := Aside0.mk A570
                    clear A570
                    replace H := Option.bind_eq_some_iff.mp H
                    obtain ⟨⟨t189, t190⟩, A580, H⟩ := H
                    replace H : (if t172.toList = t174.toList then (if t176.toList = t180.toList then (if t187.toList = a0.toList then (if t189.toList = a0.toList then (if t190 = true then ((decimal_Right.f t172).bind fun t191 => (some t191)) else (some false)) else (some false)) else (some false)) else (some false)) else (some false)) = some r := H
                    have A58 := Aside0.mk A580
                    clear A580
                    by_cases c59 : t172.toList = t174.toList
                    · rw [if_pos c59] at H
                      have c59b0 : (t172.toList == t174.toList) = true := beq_iff_eq.mpr c59
                      have c59b1 : (t172.toList != t174.toList) = false := bne_eq_false_iff_eq.mpr c59
                      clear c59
                      by_cases c60 : t176.toList = t180.toList
                      · rw [if_pos c60] at H
                        have c60b0 : (t176.toList == t180.toList) = true := beq_iff_eq.mpr c60
                        have c60b1 : (t176.toList != t180.toList) = false := bne_eq_false_iff_eq.mpr c60
                        clear c60
                        by_cases c61 : t187.toList = a0.toList
                        · rw [if_pos c61] at H
                          have c61b0 : (t187.toList == a0.toList) = true := beq_iff_eq.mpr c61
                          have c61b1 : (t187.toList != a0.toList) = false := bne_eq_false_iff_eq.mpr c61
                          clear c61
                          by_cases c62 : t189.toList = a0.toList
                          · rw [if_pos c62] at H
                            have c62b0 : (t189.toList == a0.toList) = true := beq_iff_eq.mpr c62
                            have c62b1 : (t189.toList != a0.toList) = false := bne_eq_false_iff_eq.mpr c62
                            clear c62
                            by_cases c63 : t190 = true
                            · subst c63
                              have H1 : ((decimal_Right.f t172).bind fun t191 => (some t191)) = some r := by rw [if_pos rfl] at H; exact H
                              clear H
                              have H := H1
                              clear H1
                              replace H := Option.bind_eq_some_iff.mp H
                              obtain ⟨t191, A640, H⟩ := H
                              replace H : (some t191) = some r := H
                              have A64 := Aside0.mk A640
                              clear A640
                              obtain rfl := Option.some.inj H
                              go_wp2_with (first | ((with_reducible refine gate_callee (f := 11) rfl ?_); refine goesL_ (some 105) rfl rfl Tryd.func11 (by kernel_rfl) rfl #[.string t172, .string x18_22] rfl (by (try simp only [List.map_toArray, List.map_cons, List.map_nil]); first | done | rfl | (simp only [List.length_drop, List.length_take]; rfl)) ?_; (with_reducible refine (decimal_Add.calls kj29 t172 x18_22 t187 t188 _ A57.out).mono ?_); rintro e w65 ⟨rfl, hb⟩; refine ⟨_, rfl, ?_⟩; have n0_ := Aside0.mk (below_step (by repeat (first | (with_reducible first | exact HB.out | apply below_alloc | apply pw_below_drewN | apply below_drew1) | exact HB.out)) hb); clear HB; have HB := n0_; clear n0_; (try clear hb); (try clear hb2); (try clear hk); (try clear hi)) | ((with_reducible refine gate_callee (f := 11) rfl ?_); refine goesL_ (some 110) rfl rfl Tryd.func11 (by kernel_rfl) rfl #[.string a0, .string (⟨#[48]⟩ : ByteArray)] rfl (by (try simp only [List.map_toArray, List.map_cons, List.map_nil]); first | done | rfl | (simp only [List.length_drop, List.length_take]; rfl)) ?_; (with_reducible refine (decimal_Add.calls kj29 a0 (⟨#[48]⟩ : ByteArray) t189 true _ A58.out).mono ?_); rintro e w66 ⟨rfl, hb⟩; refine ⟨_, rfl, ?_⟩; have n0_ := Aside0.mk (below_step (by repeat (first | (with_reducible first | exact HB.out | apply below_alloc | apply pw_below_drewN | apply below_drew1) | exact HB.out)) hb); clear HB; have HB := n0_; clear n0_; (try clear hb); (try clear hb2); (try clear hk); (try clear hi)) | (go_at_call 12; (with_reducible refine (decimal_Right.calls t172 t191 _ A64.out).mono ?_); rintro e w67 ⟨rfl, hb⟩; have n0_ := Aside0.mk (below_step (by repeat (first | (with_reducible first | exact HB.out | apply below_alloc | apply pw_below_drewN | apply below_drew1) | exact HB.out)) hb); clear HB; have HB := n0_; clear n0_; (try clear hb); (try clear hb2); (try clear hk); (try clear hi)))
                              go_ret
                              exact ⟨by first | rfl | (simp [errW_none, errW_some] <;> rfl) | (simp [*, errW_none, errW_some] <;> rfl), by repeat (first | (with_reducible first | exact HB.out | apply below_alloc | apply pw_below_drewN | apply below_drew1) | exact HB.out)⟩
                            · replace c63 := Bool.eq_false_iff.mpr c63
                              subst c63
                              have H1 : (some false) = some r := by rw [if_neg (show ¬ (false = true) by decide)] at H; exact H
                              clear H
                              have H := H1
                              clear H1
                              obtain rfl := Option.some.inj H
                              go_wp2_with (first | ((with_reducible refine gate_callee (f := 11) rfl ?_); refine goesL_ (some 105) rfl rfl Tryd.func11 (by kernel_rfl) rfl #[.string t172, .string x18_22] rfl (by (try simp only [List.map_toArray, List.map_cons, List.map_nil]); first | done | rfl | (simp only [List.length_drop, List.length_take]; rfl)) ?_; (with_reducible refine (decimal_Add.calls kj29 t172 x18_22 t187 t188 _ A57.out).mono ?_); rintro e w68 ⟨rfl, hb⟩; refine ⟨_, rfl, ?_⟩; have n0_ := Aside0.mk (below_step (by repeat (first | (with_reducible first | exact HB.out | apply below_alloc | apply pw_below_drewN | apply below_drew1) | exact HB.out)) hb); clear HB; have HB := n0_; clear n0_; (try clear hb); (try clear hb2); (try clear hk); (try clear hi)) | ((with_reducible refine gate_callee (f := 11) rfl ?_); refine goesL_ (some 110) rfl rfl Tryd.func11 (by kernel_rfl) rfl #[.string a0, .string (⟨#[48]⟩ : ByteArray)] rfl (by (try simp only [List.map_toArray, List.map_cons, List.map_nil]); first | done | rfl | (simp only [List.length_drop, List.length_take]; rfl)) ?_; (with_reducible refine (decimal_Add.calls kj29 a0 (⟨#[48]⟩ : ByteArray) t189 false _ A58.out).mono ?_); rintro e w69 ⟨rfl, hb⟩; refine ⟨_, rfl, ?_⟩; have n0_ := Aside0.mk (below_step (by repeat (first | (with_reducible first | exact HB.out | apply below_alloc | apply pw_below_drewN | apply below_drew1) | exact HB.out)) hb); clear HB; have HB := n0_; clear n0_; (try clear hb); (try clear hb2); (try clear hk); (try clear hi)))
                              go_ret
                              exact ⟨by first | rfl | (simp [errW_none, errW_some] <;> rfl) | (simp [*, errW_none, errW_some] <;> rfl), by repeat (first | (with_reducible first | exact HB.out | apply below_alloc | apply pw_below_drewN | apply below_drew1) | exact HB.out)⟩
                          · rw [if_neg c62] at H
                            have c62b0 : (t189.toList == a0.toList) = false := beq_eq_false_iff_ne.mpr c62
                            have c62b1 : (t189.toList != a0.toList) = true := bne_iff_ne.mpr c62
                            obtain rfl := Option.some.inj H
                            go_wp2_with (first | ((with_reducible refine gate_callee (f := 11) rfl ?_); refine goesL_ (some 105) rfl rfl Tryd.func11 (by kernel_rfl) rfl #[.string t172, .string x18_22] rfl (by (try simp only [List.map_toArray, List.map_cons, List.map_nil]); first | done | rfl | (simp only [List.length_drop, List.length_take]; rfl)) ?_; (with_reducible refine (decimal_Add.calls kj29 t172 x18_22 t187 t188 _ A57.out).mono ?_); rintro e w70 ⟨rfl, hb⟩; refine ⟨_, rfl, ?_⟩; have n0_ := Aside0.mk (below_step (by repeat (first | (with_reducible first | exact HB.out | apply below_alloc | apply pw_below_drewN | apply below_drew1) | exact HB.out)) hb); clear HB; have HB := n0_; clear n0_; (try clear hb); (try clear hb2); (try clear hk); (try clear hi)) | ((with_reducible refine gate_callee (f := 11) rfl ?_); refine goesL_ (some 110) rfl rfl Tryd.func11 (by kernel_rfl) rfl #[.string a0, .string (⟨#[48]⟩ : ByteArray)] rfl (by (try simp only [List.map_toArray, List.map_cons, List.map_nil]); first | done | rfl | (simp only [List.length_drop, List.length_take]; rfl)) ?_; (with_reducible refine (decimal_Add.calls kj29 a0 (⟨#[48]⟩ : ByteArray) t189 t190 _ A58.out).mono ?_); rintro e w71 ⟨rfl, hb⟩; refine ⟨_, rfl, ?_⟩; have n0_ := Aside0.mk (below_step (by repeat (first | (with_reducible first | exact HB.out | apply below_alloc | apply pw_below_drewN | apply below_drew1) | exact HB.out)) hb); clear HB; have HB := n0_; clear n0_; (try clear hb); (try clear hb2); (try clear hk); (try clear hi)))
                            go_ret
                            exact ⟨by first | rfl | (simp [errW_none, errW_some] <;> rfl) | (simp [*, errW_none, errW_some] <;> rfl), by repeat (first | (with_reducible first | exact HB.out | apply below_alloc | apply pw_below_drewN | apply below_drew1) | exact HB.out)⟩
                        · rw [if_neg c61] at H
                          have c61b0 : (t187.toList == a0.toList) = false := beq_eq_false_iff_ne.mpr c61
                          have c61b1 : (t187.toList != a0.toList) = true := bne_iff_ne.mpr c61
                          obtain rfl := Option.some.inj H
                          go_wp2_with (first | ((with_reducible refine gate_callee (f := 11) rfl ?_); refine goesL_ (some 105) rfl rfl Tryd.func11 (by kernel_rfl) rfl #[.string t172, .string x18_22] rfl (by (try simp only [List.map_toArray, List.map_cons, List.map_nil]); first | done | rfl | (simp only [List.length_drop, List.length_take]; rfl)) ?_; (with_reducible refine (decimal_Add.calls kj29 t172 x18_22 t187 t188 _ A57.out).mono ?_); rintro e w72 ⟨rfl, hb⟩; refine ⟨_, rfl, ?_⟩; have n0_ := Aside0.mk (below_step (by repeat (first | (with_reducible first | exact HB.out | apply below_alloc | apply pw_below_drewN | apply below_drew1) | exact HB.out)) hb); clear HB; have HB := n0_; clear n0_; (try clear hb); (try clear hb2); (try clear hk); (try clear hi)) | ((with_reducible refine gate_callee (f := 11) rfl ?_); refine goesL_ (some 110) rfl rfl Tryd.func11 (by kernel_rfl) rfl #[.string a0, .string (⟨#[48]⟩ : ByteArray)] rfl (by (try simp only [List.map_toArray, List.map_cons, List.map_nil]); first | done | rfl | (simp only [List.length_drop, List.length_take]; rfl)) ?_; (with_reducible refine (decimal_Add.calls kj29 a0 (⟨#[48]⟩ : ByteArray) t189 t190 _ A58.out).mono ?_); rintro e w73 ⟨rfl, hb⟩; refine ⟨_, rfl, ?_⟩; have n0_ := Aside0.mk (below_step (by repeat (first | (with_reducible first | exact HB.out | apply below_alloc | apply pw_below_drewN | apply below_drew1) | exact HB.out)) hb); clear HB; have HB := n0_; clear n0_; (try clear hb); (try clear hb2); (try clear hk); (try clear hi)))
                          go_ret
                          exact ⟨by first | rfl | (simp [errW_none, errW_some] <;> rfl) | (simp [*, errW_none, errW_some] <;> rfl), by repeat (first | (with_reducible first | exact HB.out | apply below_alloc | apply pw_below_drewN | apply below_drew1) | exact HB.out)⟩
                      · rw [if_neg c60] at H
                        have c60b0 : (t176.toList == t180.toList) = false := beq_eq_false_iff_ne.mpr c60
                        have c60b1 : (t176.toList != t180.toList) = true := bne_iff_ne.mpr c60
                        obtain rfl := Option.some.inj H
                        go_wp2_with (first | ((with_reducible refine gate_callee (f := 11) rfl ?_); refine goesL_ (some 105) rfl rfl Tryd.func11 (by kernel_rfl) rfl #[.string t172, .string x18_22] rfl (by (try simp only [List.map_toArray, List.map_cons, List.map_nil]); first | done | rfl | (simp only [List.length_drop, List.length_take]; rfl)) ?_; (with_reducible refine (decimal_Add.calls kj29 t172 x18_22 t187 t188 _ A57.out).mono ?_); rintro e w74 ⟨rfl, hb⟩; refine ⟨_, rfl, ?_⟩; have n0_ := Aside0.mk (below_step (by repeat (first | (with_reducible first | exact HB.out | apply below_alloc | apply pw_below_drewN | apply below_drew1) | exact HB.out)) hb); clear HB; have HB := n0_; clear n0_; (try clear hb); (try clear hb2); (try clear hk); (try clear hi)) | ((with_reducible refine gate_callee (f := 11) rfl ?_); refine goesL_ (some 110) rfl rfl Tryd.func11 (by kernel_rfl) rfl #[.string a0, .string (⟨#[48]⟩ : ByteArray)] rfl (by (try simp only [List.map_toArray, List.map_cons, List.map_nil]); first | done | rfl | (simp only [List.length_drop, List.length_take]; rfl)) ?_; (with_reducible refine (decimal_Add.calls kj29 a0 (⟨#[48]⟩ : ByteArray) t189 t190 _ A58.out).mono ?_); rintro e w75 ⟨rfl, hb⟩; refine ⟨_, rfl, ?_⟩; have n0_ := Aside0.mk (below_step (by repeat (first | (with_reducible first | exact HB.out | apply below_alloc | apply pw_below_drewN | apply below_drew1) | exact HB.out)) hb); clear HB; have HB := n0_; clear n0_; (try clear hb); (try clear hb2); (try clear hk); (try clear hi)))
                        go_ret
                        exact ⟨by first | rfl | (simp [errW_none, errW_some] <;> rfl) | (simp [*, errW_none, errW_some] <;> rfl), by repeat (first | (with_reducible first | exact HB.out | apply below_alloc | apply pw_below_drewN | apply below_drew1) | exact HB.out)⟩
                    · rw [if_neg c59] at H
                      have c59b0 : (t172.toList == t174.toList) = false := beq_eq_false_iff_ne.mpr c59
                      have c59b1 : (t172.toList != t174.toList) = true := bne_iff_ne.mpr c59
                      obtain rfl := Option.some.inj H
                      go_wp2_with (first | ((with_reducible refine gate_callee (f := 11) rfl ?_); refine goesL_ (some 105) rfl rfl Tryd.func11 (by kernel_rfl) rfl #[.string t172, .string x18_22] rfl (by (try simp only [List.map_toArray, List.map_cons, List.map_nil]); first | done | rfl | (simp only [List.length_drop, List.length_take]; rfl)) ?_; (with_reducible refine (decimal_Add.calls kj29 t172 x18_22 t187 t188 _ A57.out).mono ?_); rintro e w76 ⟨rfl, hb⟩; refine ⟨_, rfl, ?_⟩; have n0_ := Aside0.mk (below_step (by repeat (first | (with_reducible first | exact HB.out | apply below_alloc | apply pw_below_drewN | apply below_drew1) | exact HB.out)) hb); clear HB; have HB := n0_; clear n0_; (try clear hb); (try clear hb2); (try clear hk); (try clear hi)) | ((with_reducible refine gate_callee (f := 11) rfl ?_); refine goesL_ (some 110) rfl rfl Tryd.func11 (by kernel_rfl) rfl #[.string a0, .string (⟨#[48]⟩ : ByteArray)] rfl (by (try simp only [List.map_toArray, List.map_cons, List.map_nil]); first | done | rfl | (simp only [List.length_drop, List.length_take]; rfl)) ?_; (with_reducible refine (decimal_Add.calls kj29 a0 (⟨#[48]⟩ : ByteArray) t189 t190 _ A58.out).mono ?_); rintro e w77 ⟨rfl, hb⟩; refine ⟨_, rfl, ?_⟩; have n0_ := Aside0.mk (below_step (by repeat (first | (with_reducible first | exact HB.out | apply below_alloc | apply pw_below_drewN | apply below_drew1) | exact HB.out)) hb); clear HB; have HB := n0_; clear n0_; (try clear hb); (try clear hb2); (try clear hk); (try clear hi)))
                      go_ret
                      exact ⟨by first | rfl | (simp [errW_none, errW_some] <;> rfl) | (simp [*, errW_none, errW_some] <;> rfl), by repeat (first | (with_reducible first | exact HB.out | apply below_alloc | apply pw_below_drewN | apply below_drew1) | exact HB.out)⟩
        · rw [if_neg c22] at H
          exact absurd H (by simp)

/-- THE ONE PURE STATEMENT of abridgerlaw4_DecimalAdds: yours. -/
def abridgerlaw4_DecimalAdds.Pure : Prop := ∀ (a0 : ByteArray) (a1 : ByteArray) (a2 : ByteArray), a0.size ≤ 140737488351232 → a1.size ≤ 140737488351232 → a2.size ≤ 140737488351232 → ∃ k, abridgerlaw4_DecimalAdds.f k a0 a1 a2 = some true
theorem abridgerlaw4_DecimalAdds.walk (P : abridgerlaw4_DecimalAdds.Pure) (a0 : ByteArray) (a1 : ByteArray) (a2 : ByteArray) (w : World) (w0 : a0.size ≤ 140737488351232) (w1 : a1.size ≤ 140737488351232) (w2 : a2.size ≤ 140737488351232) :
    Calls Tryd.prog 3 #[.string a0, .string a1, .string a2] w fun e w' => e = .returned (.bool true) ∧ Below w.heap.size w w' := by
  obtain ⟨k, h⟩ := P a0 a1 a2 w0 w1 w2
  refine (abridgerlaw4_DecimalAdds.calls k a0 a1 a2 true w h).mono ?_
  rintro e w' ⟨rfl, hd⟩
  exact ⟨rfl, hd⟩

end Go.Proofs.YthimiidnbnlemaaDoor.P
