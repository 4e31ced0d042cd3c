-- printed by xprint.py (a program of this session's, over the kit's print); Lean checks it
import Derived.Test.YthimiidnbnlemaaGreatDoorNumberTellsPx0
import Derived.Test.YthimiidnbnlemaaGreatDoorNumberTellsPx14
namespace Go.Proofs.YthimiidnbnlemaaGreatDoor.P
open Go.RowKit Go.Proofs.YthimiidnbnlemaaGreatDoorW.PrintWords Go.Proofs.YthimiidnbnlemaaGreatDoorW.PrintLast Go.Proofs.YthimiidnbnlemaaGreatDoorW.PrintMore Go.Proofs.YthimiidnbnlemaaGreatDoorX
attribute [local go_sem] max2_int min2_int max_two min_two max_three min_three max_four min_four   -- for this text's walks alone
set_option linter.unusedVariables false
set_option linter.unusedSimpArgs false
mutual
def r1_reckon.l0 : Nat → ByteArray → ByteArray → Bool → List Int → Int → Int → Option (ByteArray)
 | 0, _, _, _, _, _, _ => none
 | k + 1, x0, x1, x2, x7, x8, x9 => if x9 < (x0.size : Int) then (r1_reckon.j1 k x0 x1 x2 x7 x8 x9 true) else (if x9 < (x1.size : Int) then (r1_reckon.j1 k x0 x1 x2 x7 x8 x9 true) else (r1_reckon.j1 k x0 x1 x2 x7 x8 x9 (decide (x8 > 0))))
def r1_reckon.j1 : Nat → ByteArray → ByteArray → Bool → List Int → Int → Int → Bool → Option (ByteArray)
 | 0, _, _, _, _, _, _, _ => none
 | k + 1, x0, x1, x2, x7, x8, x9, x27 => if x27 = true then ((r1_digit.f x0 x9).bind fun t236 => ((r1_digit.f x1 x9).bind fun t237 => (if x2 = true then ((r1_digit.f x0 x9).bind fun t238 => ((r1_digit.f x1 x9).bind fun t239 => (r1_reckon.j2 k x0 x1 x2 x7 x9 (wrap64 ((wrap64 (t238 - t239)) - x8))))) else (r1_reckon.j2 k x0 x1 x2 x7 x9 (wrap64 ((wrap64 (t236 + t237)) + x8)))))) else (r1_reckon.l1 k x7 (x7.length : Int))
def r1_reckon.j2 : Nat → ByteArray → ByteArray → Bool → List Int → Int → Int → Option (ByteArray)
 | 0, _, _, _, _, _, _ => none
 | k + 1, x0, x1, x2, x7, x9, x10 => if x10 > 9 then (if (wrap64 (x10 - 10)) < 0 then (if x7.length < 140737488355328 then (r1_reckon.l0 k x0 x1 x2 (x7 ++ [(((wrap64 ((wrap64 (x10 - 10)) + 10))) + 48) % 256]) 1 (wrap64 (x9 + 1))) else (none)) else (if x7.length < 140737488355328 then (r1_reckon.l0 k x0 x1 x2 (x7 ++ [(((wrap64 (x10 - 10))) + 48) % 256]) 1 (wrap64 (x9 + 1))) else (none))) else (if x10 < 0 then (if x7.length < 140737488355328 then (r1_reckon.l0 k x0 x1 x2 (x7 ++ [(((wrap64 (x10 + 10))) + 48) % 256]) 1 (wrap64 (x9 + 1))) else (none)) else (if x7.length < 140737488355328 then (r1_reckon.l0 k x0 x1 x2 (x7 ++ [(((x10)) + 48) % 256]) 0 (wrap64 (x9 + 1))) else (none)))
def r1_reckon.j4 : Nat → List Int → Int → Option (ByteArray)
 | 0, _, _ => none
 | k + 1, x7, x11 => r1_reckon.l2 k x7 ([] : List Int) (wrap64 (x11 - 1))
def r1_reckon.l2 : Nat → List Int → List Int → Int → Option (ByteArray)
 | 0, _, _, _ => none
 | k + 1, x7, x12, x13 => if x13 ≥ 0 then (if 0 ≤ x13 then (if x13 < (x7.length : Int) then (if x12.length < 140737488355328 then (r1_reckon.l2 k x7 (x12 ++ [rd x7 x13]) (wrap64 (x13 - 1))) else (none)) else (none)) else (none)) else (some (strOfNums x12))
def r1_reckon.l1 : Nat → List Int → Int → Option (ByteArray)
 | 0, _, _ => none
 | k + 1, x7, x11 => if x11 > 1 then (if 0 ≤ (wrap64 (x11 - 1)) then (if (wrap64 (x11 - 1)) < (x7.length : Int) then (if (rd x7 (wrap64 (x11 - 1))) = 48 then (r1_reckon.l1 k x7 (wrap64 (x11 - 1))) else (r1_reckon.j4 k x7 x11)) else (none)) else (none)) else (r1_reckon.j4 k x7 x11)
end
def r1_reckon.f (k : Nat) (a0 : ByteArray) (a1 : ByteArray) (a2 : Bool) : Option (ByteArray) := r1_reckon.l0 k a0 a1 a2 ([] : List Int) 0 0
set_option maxHeartbeats 8000000 in
set_option maxRecDepth 100000 in
theorem r1_reckon.calls (k : Nat) (a0 : ByteArray) (a1 : ByteArray) (a2 : Bool) (r : ByteArray) (w : World) (h : r1_reckon.f k a0 a1 a2 = some r) :
  Calls Tryz.prog 52 #[.string a0, .string a1, .bool a2] w fun e w' => e = .returned (.string r) ∧ Below w.heap.size w w' := by
 have HB := Aside0.mk (Below.refl w.heap.size w)
 have H : (r1_reckon.l0 k a0 a1 a2 ([] : List Int) 0 0) = some r := h
 clear h
 have H' := Aside0.mk H
 clear H
 go_enter Tryz.func52, Tryz.ntmps52
 go_wp2
 go_loopg [7, 8, 9] k (fun kq v7 v8 v9 w' => ∃ (x7_1 : List Int) (x8_1 : Int) (x9_1 : Int), v8 = .int .i64 x8_1 ∧ v9 = .int .i64 x9_1 ∧ Aside0 (r1_reckon.l0 kq a0 a1 a2 x7_1 x8_1 x9_1 = some r) ∧ Aside0 (kq ≤ k) ∧ Aside0 (Kd.R (Kd.int .u8) 5 w' w.heap.size (fun _ => True) v7 x7_1) ∧ Aside0 (Below w.heap.size w w'))
 case atStart => exact ⟨(([] : List Int)), (0), (0), (by first | rfl | (simp; done) | (simp [bne_nil_]; done) | (simp [*]; done) | (simp [wrap64]; done) | (refine congrArg (Value.int .i64) ?_; unfold wrap64; omega)), (by first | rfl | (simp; done) | (simp [bne_nil_]; done) | (simp [*]; done) | (simp [wrap64]; done) | (refine congrArg (Value.int .i64) ?_; unfold wrap64; omega)), H', ⟨Nat.le_refl _⟩, ⟨by first | exact Kd.R_nil _ _ _ _ _ | exact Kd.N_nil _ _ _ _ _ | exact Kd.V_nil _ _ _ _ _ | exact Kd.Q_nil _ _ _ _ _ | exact Kd.S_nil _ _ _ _ _⟩, ⟨by repeat (first | (with_reducible first | exact HB.out | apply below_alloc | apply pw_below_drewN | apply below_drew1) | exact HB.out)⟩⟩
 case round =>
  clear H'
  try clear p2
  obtain ⟨x7_1, x8_1, x9_1, rfl, rfl, HA, HK1, HO_7, HB⟩ := hrel
  cases gk with
  | zero => exact absurd HA.out (by simp [r1_reckon.l0])
  | succ k1 =>
   have H := HA.out
   clear HA
   simp only [r1_reckon.l0] at H
   have HC4 := Aside0.mk H
   clear H
   go_upto_region 4 with (fail)
   go_cut [27] (fun v27 wc => ∃ (kq : Nat) (x27_3 : Bool), v27 = .bool x27_3 ∧ Aside0 (r1_reckon.j1 kq a0 a1 a2 x7_1 x8_1 x9_1 x27_3 = some r) ∧ Aside0 (kq ≤ k1) ∧ Aside0 (Kd.R (Kd.int .u8) 5 wc w.heap.size (fun _ => True) u7 x7_1) ∧ Aside0 (Below w.heap.size w wc))
   case first =>
    have H := HC4.out
    clear HC4
    by_cases c5 : x9_1 < (a0.size : Int)
    ·rw [if_pos c5] at H
     have c5b0 : decide (x9_1 < (a0.size : Int)) = true := decide_eq_true c5
     clear c5
     (first | rw [c5b0] | (simp only [i64_w, i32_w]; rw [c5b0]) | skip)
     have H' := Aside0.mk H
     clear H
     go_wp2
     go_meet
     case rel => exact ⟨_, (true), (by first | rfl | (simp; done) | (simp [bne_nil_]; done) | (simp [*]; done) | (simp [wrap64]; done) | (refine congrArg (Value.int .i64) ?_; unfold wrap64; omega)), H', ⟨by have := HK1.out; first | omega | exact Nat.le_refl _⟩, ⟨by (with_reducible repeat (first | apply Kd.R_alloc | apply Kd.R_drewN | apply Kd.R_drew)); exact HO_7.out⟩, ⟨by repeat (first | (with_reducible first | exact HB.out | apply below_alloc | apply pw_below_drewN | apply below_drew1) | exact HB.out)⟩⟩
    ·rw [if_neg c5] at H
     have c5b0 : decide (x9_1 < (a0.size : Int)) = false := decide_eq_false c5
     clear c5
     (first | rw [c5b0] | (simp only [i64_w, i32_w]; rw [c5b0]) | skip)
     by_cases c6 : x9_1 < (a1.size : Int)
     ·rw [if_pos c6] at H
      have c6b0 : decide (x9_1 < (a1.size : Int)) = true := decide_eq_true c6
      clear c6
      have H' := Aside0.mk H
      clear H
      go_wp2
      go_meet
      case rel => exact ⟨_, (true), (by first | rfl | (simp; done) | (simp [bne_nil_]; done) | (simp [*]; done) | (simp [wrap64]; done) | (refine congrArg (Value.int .i64) ?_; unfold wrap64; omega)), H', ⟨by have := HK1.out; first | omega | exact Nat.le_refl _⟩, ⟨by (with_reducible repeat (first | apply Kd.R_alloc | apply Kd.R_drewN | apply Kd.R_drew)); exact HO_7.out⟩, ⟨by repeat (first | (with_reducible first | exact HB.out | apply below_alloc | apply pw_below_drewN | apply below_drew1) | exact HB.out)⟩⟩
     ·rw [if_neg c6] at H
      have c6b0 : decide (x9_1 < (a1.size : Int)) = false := decide_eq_false c6
      clear c6
      have H' := Aside0.mk H
      clear H
      go_wp2
      go_meet
      case rel => exact ⟨_, (decide (x8_1 > 0)), (by first | rfl | (simp; done) | (simp [bne_nil_]; done) | (simp [*]; done) | (simp [wrap64]; done) | (refine congrArg (Value.int .i64) ?_; unfold wrap64; omega)), H', ⟨by have := HK1.out; first | omega | exact Nat.le_refl _⟩, ⟨by (with_reducible repeat (first | apply Kd.R_alloc | apply Kd.R_drewN | apply Kd.R_drew)); exact HO_7.out⟩, ⟨by repeat (first | (with_reducible first | exact HB.out | apply below_alloc | apply pw_below_drewN | apply below_drew1) | exact HB.out)⟩⟩
   case rest =>
    clear HC4
    try clear p2
    try clear c5
    try clear c5b0
    try clear c6
    try clear c6b0
    try clear p6
    try clear p2
    obtain ⟨kq, x27_3, rfl, HA, HJ3, HO_7, HB⟩ := hcut
    cases kq with
    | zero => exact absurd HA.out (by simp [r1_reckon.j1])
    | succ kj3 =>
     have H := HA.out
     clear HA
     simp only [r1_reckon.j1] at H
     by_cases c7 : x27_3 = true
     ·subst c7
      have H1 : ((r1_digit.f a0 x9_1).bind fun t236 => ((r1_digit.f a1 x9_1).bind fun t237 => (if a2 = true then ((r1_digit.f a0 x9_1).bind fun t238 => ((r1_digit.f a1 x9_1).bind fun t239 => (r1_reckon.j2 kj3 a0 a1 a2 x7_1 x9_1 (wrap64 ((wrap64 (t238 - t239)) - x8_1))))) else (r1_reckon.j2 kj3 a0 a1 a2 x7_1 x9_1 (wrap64 ((wrap64 (t236 + t237)) + x8_1)))))) = some r := by rw [if_pos rfl] at H; exact H
      clear H
      have H := H1
      clear H1
      replace H := Option.bind_eq_some_iff.mp H
      obtain ⟨t236, A80, H⟩ := H
      replace H : ((r1_digit.f a1 x9_1).bind fun t237 => (if a2 = true then ((r1_digit.f a0 x9_1).bind fun t238 => ((r1_digit.f a1 x9_1).bind fun t239 => (r1_reckon.j2 kj3 a0 a1 a2 x7_1 x9_1 (wrap64 ((wrap64 (t238 - t239)) - x8_1))))) else (r1_reckon.j2 kj3 a0 a1 a2 x7_1 x9_1 (wrap64 ((wrap64 (t236 + t237)) + x8_1))))) = some r := H
      have A8 := Aside0.mk A80
      clear A80
      replace H := Option.bind_eq_some_iff.mp H
      obtain ⟨t237, A90, H⟩ := H
      replace H : (if a2 = true then ((r1_digit.f a0 x9_1).bind fun t238 => ((r1_digit.f a1 x9_1).bind fun t239 => (r1_reckon.j2 kj3 a0 a1 a2 x7_1 x9_1 (wrap64 ((wrap64 (t238 - t239)) - x8_1))))) else (r1_reckon.j2 kj3 a0 a1 a2 x7_1 x9_1 (wrap64 ((wrap64 (t236 + t237)) + x8_1)))) = some r := H
      have A9 := Aside0.mk A90
      clear A90
      have HC10 := Aside0.mk H
      clear H
      go_upto_if 39 with (first | ((with_reducible refine gate_callee (f := 66) rfl ?_); refine goesL_ (some 32) rfl rfl Tryz.func66 (by kernel_rfl) rfl #[.string a0, .int .i64 x9_1] rfl (by (try simp only [List.map_toArray, List.map_cons, List.map_nil]); first | done | rfl | (simp only [List.length_drop, List.length_take]; rfl)) ?_; (with_reducible refine (r1_digit.calls a0 x9_1 t236 _ A8.out).mono ?_); rintro e w' ⟨rfl, ⟨nd, rfl⟩⟩; refine ⟨_, rfl, ?_⟩) | ((with_reducible refine gate_callee (f := 66) rfl ?_); refine goesL_ (some 35) rfl rfl Tryz.func66 (by kernel_rfl) rfl #[.string a1, .int .i64 x9_1] rfl (by (try simp only [List.map_toArray, List.map_cons, List.map_nil]); first | done | rfl | (simp only [List.length_drop, List.length_take]; rfl)) ?_; (with_reducible refine (r1_digit.calls a1 x9_1 t237 _ A9.out).mono ?_); rintro e w' ⟨rfl, ⟨nd, rfl⟩⟩; refine ⟨_, rfl, ?_⟩))
      (try simp only [Act.put, List.setIfInBounds_toArray, List.set_cons_zero, List.set_cons_succ])
      go_cut [10] (fun v10 wc => ∃ (kq : Nat) (x10_9 : Int), v10 = .int .i64 x10_9 ∧ Aside0 (r1_reckon.j2 kq a0 a1 a2 x7_1 x9_1 x10_9 = some r) ∧ Aside0 (kq ≤ kj3) ∧ Aside0 (Kd.R (Kd.int .u8) 5 wc w.heap.size (fun _ => True) u7 x7_1) ∧ Aside0 (Below w.heap.size w wc))
      case first =>
       have H := HC10.out
       clear HC10
       by_cases c11 : a2 = true
       ·subst c11
        have H1 : ((r1_digit.f a0 x9_1).bind fun t238 => ((r1_digit.f a1 x9_1).bind fun t239 => (r1_reckon.j2 kj3 a0 a1 true x7_1 x9_1 (wrap64 ((wrap64 (t238 - t239)) - x8_1))))) = some r := by rw [if_pos rfl] at H; exact H
        clear H
        have H := H1
        clear H1
        replace H := Option.bind_eq_some_iff.mp H
        obtain ⟨t238, A120, H⟩ := H
        replace H : ((r1_digit.f a1 x9_1).bind fun t239 => (r1_reckon.j2 kj3 a0 a1 true x7_1 x9_1 (wrap64 ((wrap64 (t238 - t239)) - x8_1)))) = some r := H
        have A12 := Aside0.mk A120
        clear A120
        replace H := Option.bind_eq_some_iff.mp H
        obtain ⟨t239, A130, H⟩ := H
        replace H : (r1_reckon.j2 kj3 a0 a1 true x7_1 x9_1 (wrap64 ((wrap64 (t238 - t239)) - x8_1))) = some r := H
        have A13 := Aside0.mk A130
        clear A130
        have H' := Aside0.mk H
        clear H
        go_wp2_with (first | ((with_reducible refine gate_callee (f := 66) rfl ?_); refine goesL_ (some 42) rfl rfl Tryz.func66 (by kernel_rfl) rfl #[.string a0, .int .i64 x9_1] rfl (by (try simp only [List.map_toArray, List.map_cons, List.map_nil]); first | done | rfl | (simp only [List.length_drop, List.length_take]; rfl)) ?_; (with_reducible refine (r1_digit.calls a0 x9_1 t238 _ A12.out).mono ?_); rintro e w' ⟨rfl, ⟨nd, rfl⟩⟩; refine ⟨_, rfl, ?_⟩) | ((with_reducible refine gate_callee (f := 66) rfl ?_); refine goesL_ (some 45) rfl rfl Tryz.func66 (by kernel_rfl) rfl #[.string a1, .int .i64 x9_1] rfl (by (try simp only [List.map_toArray, List.map_cons, List.map_nil]); first | done | rfl | (simp only [List.length_drop, List.length_take]; rfl)) ?_; (with_reducible refine (r1_digit.calls a1 x9_1 t239 _ A13.out).mono ?_); rintro e w' ⟨rfl, ⟨nd, rfl⟩⟩; refine ⟨_, rfl, ?_⟩))
        go_meet
        case rel => exact ⟨_, (wrap64 ((wrap64 (t238 - t239)) - x8_1)), (by first | rfl | (simp; done) | (simp [bne_nil_]; done) | (simp [*]; done) | (simp [wrap64]; done) | (refine congrArg (Value.int .i64) ?_; unfold wrap64; omega)), H', ⟨by have := HK1.out; have := HJ3.out; first | omega | exact Nat.le_refl _⟩, ⟨by (with_reducible repeat (first | apply Kd.R_alloc | apply Kd.R_drewN | apply Kd.R_drew)); exact HO_7.out⟩, ⟨by repeat (first | (with_reducible first | exact HB.out | apply below_alloc | apply pw_below_drewN | apply below_drew1) | exact HB.out)⟩⟩
       ·replace c11 := Bool.eq_false_iff.mpr c11
        subst c11
        have H1 : (r1_reckon.j2 kj3 a0 a1 false x7_1 x9_1 (wrap64 ((wrap64 (t236 + t237)) + x8_1))) = some r := by rw [if_neg (show ¬ (false = true) by decide)] at H; exact H
        clear H
        have H := H1
        clear H1
        have H' := Aside0.mk H
        clear H
        go_wp2
        go_meet
        case rel => exact ⟨_, (wrap64 ((wrap64 (t236 + t237)) + x8_1)), (by first | rfl | (simp; done) | (simp [bne_nil_]; done) | (simp [*]; done) | (simp [wrap64]; done) | (refine congrArg (Value.int .i64) ?_; unfold wrap64; omega)), H', ⟨by have := HK1.out; have := HJ3.out; first | omega | exact Nat.le_refl _⟩, ⟨by (with_reducible repeat (first | apply Kd.R_alloc | apply Kd.R_drewN | apply Kd.R_drew)); exact HO_7.out⟩, ⟨by repeat (first | (with_reducible first | exact HB.out | apply below_alloc | apply pw_below_drewN | apply below_drew1) | exact HB.out)⟩⟩
      case rest =>
       clear HC10
       try clear c1
       try clear p2
       try clear c5
       try clear c5b0
       try clear c6
       try clear c6b0
       try clear p6
       try clear c7
       try clear c11
       try clear p2
       try clear p6
       obtain ⟨kq, x10_9, rfl, HA, HJ9, HO_7, HB⟩ := hcut
       cases kq with
       | zero => exact absurd HA.out (by simp [r1_reckon.j2])
       | succ kj9 =>
        have H := HA.out
        clear HA
        simp only [r1_reckon.j2] at H
        by_cases c14 : x10_9 > 9
        ·rw [if_pos c14] at H
         have c14b0 : decide (9 < x10_9) = true := decide_eq_true c14
         clear c14
         by_cases c15 : (wrap64 (x10_9 - 10)) < 0
         ·rw [if_pos c15] at H
          have c15b0 : decide ((wrap64 (x10_9 - 10)) < 0) = true := decide_eq_true c15
          clear c15
          by_cases c16 : x7_1.length < 140737488355328
          ·rw [if_pos c16] at H
           have LMc16 := Aside0.mk c16
           clear c16
           obtain ⟨y240, hy240⟩ : ∃ y_ : List Int, y_ = (x7_1 ++ [(((wrap64 ((wrap64 (x10_9 - 10)) + 10))) + 48) % 256]) := ⟨_, rfl⟩
           replace H : (r1_reckon.l0 kj9 a0 a1 a2 y240 1 (wrap64 (x9_1 + 1))) = some r := by first | (rw [hy240]; with_reducible exact H) | (have H2_ := (Option.bind_some _ _).symm.trans H; rw [hy240]; with_reducible exact H2_) | (have H2_ := (Option.bind_some _ _).symm.trans H; with_reducible exact H2_) | with_reducible exact H | (rw [hy240]; exact H) | exact H
           have Ny240 := Aside0.mk hy240
           clear hy240
           have H' := Aside0.mk H
           clear H
           go_wp2_with (first | ((with_reducible refine gate_builtin (b := .append) (xs := #[.tmp 57, .tmp 61]) rfl ?_); (try (refine gate_guard (by rfl) ?_; dsimp only)); at_builtin; refine Kd.R_append (Kd.int .u8) (w0 := w) w.heap.size rfl (.tmp 57) (.tmp 61) 66 5 (.int .u8 0) 1 rfl Tryz.underlying66 info5 rfl (by decide) (by omega) u7 x7_1 ((((wrap64 ((wrap64 (x10_9 - 10)) + 10))) + 48) % 256) [.int .u8 ((((wrap64 ((wrap64 (x10_9 - 10)) + 10))) + 48) % 256)] (fun _ => True) (fun _ => False) rfl rfl ?aP (fun _ hk => hk.elim) ?aF ?aO ?aB ?aS ?aL ?_; (case aP => exact rfl); (case aB => exact (by repeat (first | (with_reducible first | exact HB.out | apply below_alloc | apply pw_below_drewN | apply below_drew1) | exact HB.out))); (case aF => exact (fun _ _ => trivial)); (case aO => exact (by (with_reducible repeat (first | apply Kd.R_alloc | apply Kd.R_drewN | apply Kd.R_drew)); exact HO_7.out)); (case aS => exact (below_size (by repeat (first | (with_reducible first | exact HB.out | apply below_alloc | apply pw_below_drewN | apply below_drew1) | exact HB.out)))); (case aL => have := LMc16.out; omega); intro v241 w17 ho hb hg hat; rw [← Ny240.out] at ho; have n0_ := Aside0.mk (hb); have n1_ := Aside0.mk (ho); clear HB; clear HO_7; have HB := n0_; have HO242 := n1_; clear n0_ n1_; clear ho hb hg hat))
           go_roundg kj9
           case measure => have := HK1.out; have := HJ3.out; have := HJ9.out; omega
           case rel => exact ⟨(y240), (1), (wrap64 (x9_1 + 1)), (by first | rfl | (simp; done) | (simp [bne_nil_]; done) | (simp [*]; done) | (simp [wrap64]; done) | (refine congrArg (Value.int .i64) ?_; unfold wrap64; omega)), (by first | rfl | (simp; done) | (simp [bne_nil_]; done) | (simp [*]; done) | (simp [wrap64]; done) | (refine congrArg (Value.int .i64) ?_; unfold wrap64; omega)), H', ⟨by have := HK1.out; have := HJ3.out; have := HJ9.out; omega⟩, ⟨by (with_reducible repeat (first | apply Kd.R_alloc | apply Kd.R_drewN | apply Kd.R_drew)); exact HO242.out⟩, ⟨by repeat (first | (with_reducible first | exact HB.out | apply below_alloc | apply pw_below_drewN | apply below_drew1) | exact HB.out)⟩⟩
          ·rw [if_neg c16] at H
           exact absurd H (by simp)
         ·rw [if_neg c15] at H
          have c15b0 : decide ((wrap64 (x10_9 - 10)) < 0) = false := decide_eq_false c15
          clear c15
          by_cases c18 : x7_1.length < 140737488355328
          ·rw [if_pos c18] at H
           have LMc18 := Aside0.mk c18
           clear c18
           obtain ⟨y243, hy243⟩ : ∃ y_ : List Int, y_ = (x7_1 ++ [(((wrap64 (x10_9 - 10))) + 48) % 256]) := ⟨_, rfl⟩
           replace H : (r1_reckon.l0 kj9 a0 a1 a2 y243 1 (wrap64 (x9_1 + 1))) = some r := by first | (rw [hy243]; with_reducible exact H) | (have H2_ := (Option.bind_some _ _).symm.trans H; rw [hy243]; with_reducible exact H2_) | (have H2_ := (Option.bind_some _ _).symm.trans H; with_reducible exact H2_) | with_reducible exact H | (rw [hy243]; exact H) | exact H
           have Ny243 := Aside0.mk hy243
           clear hy243
           have H' := Aside0.mk H
           clear H
           go_wp2_with (first | ((with_reducible refine gate_builtin (b := .append) (xs := #[.tmp 57, .tmp 61]) rfl ?_); (try (refine gate_guard (by rfl) ?_; dsimp only)); at_builtin; refine Kd.R_append (Kd.int .u8) (w0 := w) w.heap.size rfl (.tmp 57) (.tmp 61) 66 5 (.int .u8 0) 1 rfl Tryz.underlying66 info5 rfl (by decide) (by omega) u7 x7_1 ((((wrap64 (x10_9 - 10))) + 48) % 256) [.int .u8 ((((wrap64 (x10_9 - 10))) + 48) % 256)] (fun _ => True) (fun _ => False) rfl rfl ?aP (fun _ hk => hk.elim) ?aF ?aO ?aB ?aS ?aL ?_; (case aP => exact rfl); (case aB => exact (by repeat (first | (with_reducible first | exact HB.out | apply below_alloc | apply pw_below_drewN | apply below_drew1) | exact HB.out))); (case aF => exact (fun _ _ => trivial)); (case aO => exact (by (with_reducible repeat (first | apply Kd.R_alloc | apply Kd.R_drewN | apply Kd.R_drew)); exact HO_7.out)); (case aS => exact (below_size (by repeat (first | (with_reducible first | exact HB.out | apply below_alloc | apply pw_below_drewN | apply below_drew1) | exact HB.out)))); (case aL => have := LMc18.out; omega); intro v244 w19 ho hb hg hat; rw [← Ny243.out] at ho; have n0_ := Aside0.mk (hb); have n1_ := Aside0.mk (ho); clear HB; clear HO_7; have HB := n0_; have HO245 := n1_; clear n0_ n1_; clear ho hb hg hat))
           go_roundg kj9
           case measure => have := HK1.out; have := HJ3.out; have := HJ9.out; omega
           case rel => exact ⟨(y243), (1), (wrap64 (x9_1 + 1)), (by first | rfl | (simp; done) | (simp [bne_nil_]; done) | (simp [*]; done) | (simp [wrap64]; done) | (refine congrArg (Value.int .i64) ?_; unfold wrap64; omega)), (by first | rfl | (simp; done) | (simp [bne_nil_]; done) | (simp [*]; done) | (simp [wrap64]; done) | (refine congrArg (Value.int .i64) ?_; unfold wrap64; omega)), H', ⟨by have := HK1.out; have := HJ3.out; have := HJ9.out; omega⟩, ⟨by (with_reducible repeat (first | apply Kd.R_alloc | apply Kd.R_drewN | apply Kd.R_drew)); exact HO245.out⟩, ⟨by repeat (first | (with_reducible first | exact HB.out | apply below_alloc | apply pw_below_drewN | apply below_drew1) | exact HB.out)⟩⟩
          ·rw [if_neg c18] at H
           exact absurd H (by simp)
        ·rw [if_neg c14] at H
         have c14b0 : decide (9 < x10_9) = false := decide_eq_false c14
         clear c14
         by_cases c20 : x10_9 < 0
         ·rw [if_pos c20] at H
          have c20b0 : decide (x10_9 < 0) = true := decide_eq_true c20
          clear c20
          by_cases c21 : x7_1.length < 140737488355328
          ·rw [if_pos c21] at H
           have LMc21 := Aside0.mk c21
           clear c21
           obtain ⟨y246, hy246⟩ : ∃ y_ : List Int, y_ = (x7_1 ++ [(((wrap64 (x10_9 + 10))) + 48) % 256]) := ⟨_, rfl⟩
           replace H : (r1_reckon.l0 kj9 a0 a1 a2 y246 1 (wrap64 (x9_1 + 1))) = some r := by first | (rw [hy246]; with_reducible exact H) | (have H2_ := (Option.bind_some _ _).symm.trans H; rw [hy246]; with_reducible exact H2_) | (have H2_ := (Option.bind_some _ _).symm.trans H; with_reducible exact H2_) | with_reducible exact H | (rw [hy246]; exact H) | exact H
           have Ny246 := Aside0.mk hy246
           clear hy246
           have H' := Aside0.mk H
           clear H
           go_wp2_with (first | ((with_reducible refine gate_builtin (b := .append) (xs := #[.tmp 57, .tmp 61]) rfl ?_); (try (refine gate_guard (by rfl) ?_; dsimp only)); at_builtin; refine Kd.R_append (Kd.int .u8) (w0 := w) w.heap.size rfl (.tmp 57) (.tmp 61) 66 5 (.int .u8 0) 1 rfl Tryz.underlying66 info5 rfl (by decide) (by omega) u7 x7_1 ((((wrap64 (x10_9 + 10))) + 48) % 256) [.int .u8 ((((wrap64 (x10_9 + 10))) + 48) % 256)] (fun _ => True) (fun _ => False) rfl rfl ?aP (fun _ hk => hk.elim) ?aF ?aO ?aB ?aS ?aL ?_; (case aP => exact rfl); (case aB => exact (by repeat (first | (with_reducible first | exact HB.out | apply below_alloc | apply pw_below_drewN | apply below_drew1) | exact HB.out))); (case aF => exact (fun _ _ => trivial)); (case aO => exact (by (with_reducible repeat (first | apply Kd.R_alloc | apply Kd.R_drewN | apply Kd.R_drew)); exact HO_7.out)); (case aS => exact (below_size (by repeat (first | (with_reducible first | exact HB.out | apply below_alloc | apply pw_below_drewN | apply below_drew1) | exact HB.out)))); (case aL => have := LMc21.out; omega); intro v247 w22 ho hb hg hat; rw [← Ny246.out] at ho; have n0_ := Aside0.mk (hb); have n1_ := Aside0.mk (ho); clear HB; clear HO_7; have HB := n0_; have HO248 := n1_; clear n0_ n1_; clear ho hb hg hat))
           go_roundg kj9
           case measure => have := HK1.out; have := HJ3.out; have := HJ9.out; omega
           case rel => exact ⟨(y246), (1), (wrap64 (x9_1 + 1)), (by first | rfl | (simp; done) | (simp [bne_nil_]; done) | (simp [*]; done) | (simp [wrap64]; done) | (refine congrArg (Value.int .i64) ?_; unfold wrap64; omega)), (by first | rfl | (simp; done) | (simp [bne_nil_]; done) | (simp [*]; done) | (simp [wrap64]; done) | (refine congrArg (Value.int .i64) ?_; unfold wrap64; omega)), H', ⟨by have := HK1.out; have := HJ3.out; have := HJ9.out; omega⟩, ⟨by (with_reducible repeat (first | apply Kd.R_alloc | apply Kd.R_drewN | apply Kd.R_drew)); exact HO248.out⟩, ⟨by repeat (first | (with_reducible first | exact HB.out | apply below_alloc | apply pw_below_drewN | apply below_drew1) | exact HB.out)⟩⟩
          ·rw [if_neg c21] at H
           exact absurd H (by simp)
         ·rw [if_neg c20] at H
          have c20b0 : decide (x10_9 < 0) = false := decide_eq_false c20
          clear c20
          by_cases c23 : x7_1.length < 140737488355328
          ·rw [if_pos c23] at H
           have LMc23 := Aside0.mk c23
           clear c23
           obtain ⟨y249, hy249⟩ : ∃ y_ : List Int, y_ = (x7_1 ++ [(((x10_9)) + 48) % 256]) := ⟨_, rfl⟩
           replace H : (r1_reckon.l0 kj9 a0 a1 a2 y249 0 (wrap64 (x9_1 + 1))) = some r := by first | (rw [hy249]; with_reducible exact H) | (have H2_ := (Option.bind_some _ _).symm.trans H; rw [hy249]; with_reducible exact H2_) | (have H2_ := (Option.bind_some _ _).symm.trans H; with_reducible exact H2_) | with_reducible exact H | (rw [hy249]; exact H) | exact H
           have Ny249 := Aside0.mk hy249
           clear hy249
           have H' := Aside0.mk H
           clear H
           go_wp2_with (first | ((with_reducible refine gate_builtin (b := .append) (xs := #[.tmp 57, .tmp 61]) rfl ?_); (try (refine gate_guard (by rfl) ?_; dsimp only)); at_builtin; refine Kd.R_append (Kd.int .u8) (w0 := w) w.heap.size rfl (.tmp 57) (.tmp 61) 66 5 (.int .u8 0) 1 rfl Tryz.underlying66 info5 rfl (by decide) (by omega) u7 x7_1 ((((x10_9)) + 48) % 256) [.int .u8 ((((x10_9)) + 48) % 256)] (fun _ => True) (fun _ => False) rfl rfl ?aP (fun _ hk => hk.elim) ?aF ?aO ?aB ?aS ?aL ?_; (case aP => exact rfl); (case aB => exact (by repeat (first | (with_reducible first | exact HB.out | apply below_alloc | apply pw_below_drewN | apply below_drew1) | exact HB.out))); (case aF => exact (fun _ _ => trivial)); (case aO => exact (by (with_reducible repeat (first | apply Kd.R_alloc | apply Kd.R_drewN | apply Kd.R_drew)); exact HO_7.out)); (case aS => exact (below_size (by repeat (first | (with_reducible first | exact HB.out | apply below_alloc | apply pw_below_drewN | apply below_drew1) | exact HB.out)))); (case aL => have := LMc23.out; omega); intro v250 w24 ho hb hg hat; rw [← Ny249.out] at ho; have n0_ := Aside0.mk (hb); have n1_ := Aside0.mk (ho); clear HB; clear HO_7; have HB := n0_; have HO251 := n1_; clear n0_ n1_; clear ho hb hg hat))
           go_roundg kj9
           case measure => have := HK1.out; have := HJ3.out; have := HJ9.out; omega
           case rel => exact ⟨(y249), (0), (wrap64 (x9_1 + 1)), (by first | rfl | (simp; done) | (simp [bne_nil_]; done) | (simp [*]; done) | (simp [wrap64]; done) | (refine congrArg (Value.int .i64) ?_; unfold wrap64; omega)), (by first | rfl | (simp; done) | (simp [bne_nil_]; done) | (simp [*]; done) | (simp [wrap64]; done) | (refine congrArg (Value.int .i64) ?_; unfold wrap64; omega)), H', ⟨by have := HK1.out; have := HJ3.out; have := HJ9.out; omega⟩, ⟨by (with_reducible repeat (first | apply Kd.R_alloc | apply Kd.R_drewN | apply Kd.R_drew)); exact HO251.out⟩, ⟨by repeat (first | (with_reducible first | exact HB.out | apply below_alloc | apply pw_below_drewN | apply below_drew1) | exact HB.out)⟩⟩
          ·rw [if_neg c23] at H
           exact absurd H (by simp)
     ·replace c7 := Bool.eq_false_iff.mpr c7
      subst c7
      have H1 : (r1_reckon.l1 kj3 x7_1 (x7_1.length : Int)) = some r := by rw [if_neg (show ¬ (false = true) by decide)] at H; exact H
      clear H
      have H := H1
      clear H1
      have HC25 := Aside0.mk H
      clear H
      obtain ⟨Ao26, co26, eo26⟩ := Kd.R_slice HO_7.out
      subst eo26
      go_upto_block 2 with (fail)
      go_cut [11] (fun v11 wc => ∃ (kq : Nat) (x11_24 : Int), v11 = .int .i64 x11_24 ∧ Aside0 (r1_reckon.j4 kq x7_1 x11_24 = some r) ∧ Aside0 (kq ≤ kj3) ∧ Aside0 (Kd.R (Kd.int .u8) 5 wc w.heap.size (fun _ => True) (.slice Ao26 x7_1.length co26) x7_1) ∧ Aside0 (Below w.heap.size w wc))
      case first =>
       have H := HC25.out
       clear HC25
       have H' := Aside0.mk H
       clear H
       go_wp2
       go_loopg [11] kj3 (fun kq v11 w' => ∃ (x11_3 : Int), v11 = .int .i64 x11_3 ∧ Aside0 (r1_reckon.l1 kq x7_1 x11_3 = some r) ∧ Aside0 (kq ≤ kj3) ∧ Aside0 (Kd.R (Kd.int .u8) 5 w' w.heap.size (fun _ => True) (.slice Ao26 x7_1.length co26) x7_1) ∧ Aside0 (Below w.heap.size w w'))
       case atStart => exact ⟨((x7_1.length : Int)), (by first | rfl | (simp; done) | (simp [bne_nil_]; done) | (simp [*]; done) | (simp [wrap64]; done) | (refine congrArg (Value.int .i64) ?_; unfold wrap64; omega)), H', ⟨Nat.le_refl _⟩, ⟨by (with_reducible repeat (first | apply Kd.R_alloc | apply Kd.R_drewN | apply Kd.R_drew)); exact HO_7.out⟩, ⟨by repeat (first | (with_reducible first | exact HB.out | apply below_alloc | apply pw_below_drewN | apply below_drew1) | exact HB.out)⟩⟩
       case round =>
        clear H'
        try clear c1
        try clear c2
        try clear p2
        try clear c5
        try clear c5b0
        try clear c6
        try clear c6b0
        try clear p6
        try clear c7
        try clear c11
        try clear c14
        try clear c14b0
        try clear c15
        try clear c15b0
        try clear c16
        try clear c18
        try clear c20
        try clear c20b0
        try clear c21
        try clear c23
        try clear p2
        try clear p6
        obtain ⟨x11_3, rfl, HA, HK3, HO_7, HB⟩ := hrel
        cases gk with
        | zero => exact absurd HA.out (by simp [r1_reckon.l1])
        | succ k3 =>
         have H := HA.out
         clear HA
         simp only [r1_reckon.l1] at H
         by_cases c27 : x11_3 > 1
         ·rw [if_pos c27] at H
          have c27b0 : decide (1 < x11_3) = true := decide_eq_true c27
          clear c27
          (first | rw [c27b0] | (simp only [i64_w, i32_w]; rw [c27b0]) | skip)
          obtain ⟨ji28, hji28⟩ : ∃ j_ : Int, (wrap64 (x11_3 - 1)) = j_ := ⟨_, rfl⟩
          replace H : (if 0 ≤ (ji28) then (if (ji28) < (x7_1.length : Int) then (if (rd x7_1 (ji28)) = 48 then (r1_reckon.l1 k3 x7_1 ji28) else (r1_reckon.j4 k3 x7_1 x11_3)) else (none)) else (none)) = some r := by first | (rw [hji28] at H; exact H) | (simp only [hji28] at H ⊢; exact H)
          have hji28w : (IntKind.i64.wrap (x11_3 - 1)) = ji28 := (i64_w _).trans hji28
          by_cases c29 : 0 ≤ (ji28)
          ·rw [if_pos c29] at H
           have c29b0 : decide (0 ≤ (ji28)) = true := decide_eq_true c29
           clear c29
           by_cases c30 : (ji28) < (x7_1.length : Int)
           ·rw [if_pos c30] at H
            have c30b0 : decide ((ji28) < (x7_1.length : Int)) = true := decide_eq_true c30
            clear c30
            by_cases c31 : (rd x7_1 (ji28)) = 48
            ·rw [if_pos c31] at H
             have c31b0 : ((rd x7_1 (ji28)) == 48) = true := beq_iff_eq.mpr c31
             have c31b1 : ((rd x7_1 (ji28)) != 48) = false := bne_eq_false_iff_eq.mpr c31
             clear c31
             have H' := Aside0.mk H
             clear H
             have p252 : 0 ≤ ((ji28) : Int) := of_decide_eq_true (by first | (with_reducible assumption) | assumption)
             have q252 : (ji28) < (x7_1.length : Int) := of_decide_eq_true (by first | (with_reducible assumption) | assumption)
             obtain ⟨ad252, e252, hx252_0⟩ := Kd.at_int (Kd.R_reads' HO_7.out).2.2 (ji28) p252 q252
             cases e252
             replace p252 := eq_true p252
             replace q252 := eq_true q252
             go_wp2
             go_roundg k3
             case measure => have := HK1.out; have := HJ3.out; have := HK3.out; omega
             case rel => exact ⟨(ji28), (by first | rfl | (simp; done) | (simp only [← hji28] <;> (first | rfl | simp)) | (simp [*]; done)), H', ⟨by have := HK1.out; have := HJ3.out; have := HK3.out; omega⟩, ⟨by (with_reducible repeat (first | apply Kd.R_alloc | apply Kd.R_drewN | apply Kd.R_drew)); exact HO_7.out⟩, ⟨by repeat (first | (with_reducible first | exact HB.out | apply below_alloc | apply pw_below_drewN | apply below_drew1) | exact HB.out)⟩⟩
            ·rw [if_neg c31] at H
             have c31b0 : ((rd x7_1 (ji28)) == 48) = false := beq_eq_false_iff_ne.mpr c31
             have c31b1 : ((rd x7_1 (ji28)) != 48) = true := bne_iff_ne.mpr c31
             have H' := Aside0.mk H
             clear H
             have p252 : 0 ≤ ((ji28) : Int) := of_decide_eq_true (by first | (with_reducible assumption) | assumption)
             have q252 : (ji28) < (x7_1.length : Int) := of_decide_eq_true (by first | (with_reducible assumption) | assumption)
             obtain ⟨ad252, e252, hx252_0⟩ := Kd.at_int (Kd.R_reads' HO_7.out).2.2 (ji28) p252 q252
             cases e252
             replace p252 := eq_true p252
             replace q252 := eq_true q252
             go_wp2
             go_meet
             case rel => exact ⟨_, (x11_3), (by first | rfl | (simp; done) | (simp [bne_nil_]; done) | (simp [*]; done) | (simp [wrap64]; done) | (refine congrArg (Value.int .i64) ?_; unfold wrap64; omega)), (by first | exact H' | (simp only [hji28]; exact H')), ⟨by have := HK1.out; have := HJ3.out; have := HK3.out; first | omega | exact Nat.le_refl _⟩, ⟨by (with_reducible repeat (first | apply Kd.R_alloc | apply Kd.R_drewN | apply Kd.R_drew)); exact HO_7.out⟩, ⟨by repeat (first | (with_reducible first | exact HB.out | apply below_alloc | apply pw_below_drewN | apply below_drew1) | exact HB.out)⟩⟩
           ·rw [if_neg c30] at H
            exact absurd H (by simp)
          ·rw [if_neg c29] at H
           exact absurd H (by simp)
         ·rw [if_neg c27] at H
          have c27b0 : decide (1 < x11_3) = false := decide_eq_false c27
          clear c27
          (first | rw [c27b0] | (simp only [i64_w, i32_w]; rw [c27b0]) | skip)
          have H' := Aside0.mk H
          clear H
          go_wp2
          go_meet
          case rel => exact ⟨_, (x11_3), (by first | rfl | (simp; done) | (simp [bne_nil_]; done) | (simp [*]; done) | (simp [wrap64]; done) | (refine congrArg (Value.int .i64) ?_; unfold wrap64; omega)), H', ⟨by have := HK1.out; have := HJ3.out; have := HK3.out; first | omega | exact Nat.le_refl _⟩, ⟨by (with_reducible repeat (first | apply Kd.R_alloc | apply Kd.R_drewN | apply Kd.R_drew)); exact HO_7.out⟩, ⟨by repeat (first | (with_reducible first | exact HB.out | apply below_alloc | apply pw_below_drewN | apply below_drew1) | exact HB.out)⟩⟩
      case rest =>
       clear HC25
       try clear c1
       try clear c2
       try clear p2
       try clear q2
       try clear hx2
       try clear c3
       try clear c5
       try clear c5b0
       try clear c6
       try clear c6b0
       try clear p6
       try clear c7
       try clear c11
       try clear c14
       try clear c14b0
       try clear c15
       try clear c15b0
       try clear c16
       try clear c18
       try clear c20
       try clear c20b0
       try clear c21
       try clear c23
       try clear p25
       try clear q25
       try clear hx25
       try clear c27
       try clear c27b0
       try clear c29
       try clear c29b0
       try clear c30
       try clear c30b0
       try clear c31
       try clear c31b0
       try clear c31b1
       try clear hx252_0
       try clear p2
       try clear p252
       try clear p6
       try clear q252
       obtain ⟨kq, x11_24, rfl, HA, HJ24, HO_7, HB⟩ := hcut
       cases kq with
       | zero => exact absurd HA.out (by simp [r1_reckon.j4])
       | succ kj24 =>
        have H := HA.out
        clear HA
        simp only [r1_reckon.j4] at H
        have H' := Aside0.mk H
        clear H
        go_wp2
        go_loopg [12, 13] kj24 (fun kq v12 v13 w' => ∃ (x12_4 : List Int) (x13_4 : Int), v13 = .int .i64 x13_4 ∧ Aside0 (r1_reckon.l2 kq x7_1 x12_4 x13_4 = some r) ∧ Aside0 (kq ≤ kj24) ∧ Aside0 (Kd.R (Kd.int .u8) 5 w' w.heap.size (fun k_ => some k_ ≠ (v12 : Value).ownBlock) (.slice Ao26 x7_1.length co26) x7_1) ∧ Aside0 (Kd.R (Kd.int .u8) 5 w' w.heap.size (fun k_ => some k_ ≠ ((.slice Ao26 x7_1.length co26) : Value).ownBlock) v12 x12_4) ∧ Aside0 (Below w.heap.size w w'))
        case atStart => exact ⟨(([] : List Int)), (wrap64 (x11_24 - 1)), (by first | rfl | (simp; done) | (simp [bne_nil_]; done) | (simp [*]; done) | (simp [wrap64]; done) | (refine congrArg (Value.int .i64) ?_; unfold wrap64; omega)), H', ⟨Nat.le_refl _⟩, ⟨by (with_reducible repeat (first | apply Kd.R_alloc | apply Kd.R_drewN | apply Kd.R_drew)); exact Kd.R_mono HO_7.out (fun _ hk => (by simp [Value.ownBlock]))⟩, ⟨by first | exact Kd.R_nil _ _ _ _ _ | exact Kd.N_nil _ _ _ _ _ | exact Kd.V_nil _ _ _ _ _ | exact Kd.Q_nil _ _ _ _ _ | exact Kd.S_nil _ _ _ _ _⟩, ⟨by repeat (first | (with_reducible first | exact HB.out | apply below_alloc | apply pw_below_drewN | apply below_drew1) | exact HB.out)⟩⟩
        case round =>
         clear H'
         try clear c1
         try clear c2
         try clear p2
         try clear q2
         try clear hx2
         try clear c3
         try clear c5
         try clear c5b0
         try clear c6
         try clear c6b0
         try clear p6
         try clear c7
         try clear c11
         try clear c14
         try clear c14b0
         try clear c15
         try clear c15b0
         try clear c16
         try clear c18
         try clear c20
         try clear c20b0
         try clear c21
         try clear c23
         try clear p25
         try clear q25
         try clear hx25
         try clear c27
         try clear c27b0
         try clear c29
         try clear c29b0
         try clear c30
         try clear c30b0
         try clear c31
         try clear c31b0
         try clear c31b1
         try clear hx252_0
         try clear p2
         try clear p25
         try clear p252
         try clear p6
         try clear q2
         try clear q25
         try clear q252
         obtain ⟨x12_4, x13_4, rfl, HA, HK4, HO_7, HO_12, HB⟩ := hrel
         cases gk with
         | zero => exact absurd HA.out (by simp [r1_reckon.l2])
         | succ k4 =>
          have H := HA.out
          clear HA
          simp only [r1_reckon.l2] at H
          by_cases c32 : x13_4 ≥ 0
          ·rw [if_pos c32] at H
           have c32b0 : decide (0 ≤ x13_4) = true := decide_eq_true c32
           clear c32
           by_cases c33 : 0 ≤ x13_4
           ·rw [if_pos c33] at H
            have c33b0 : decide (0 ≤ x13_4) = true := decide_eq_true c33
            clear c33
            by_cases c34 : x13_4 < (x7_1.length : Int)
            ·rw [if_pos c34] at H
             have c34b0 : decide (x13_4 < (x7_1.length : Int)) = true := decide_eq_true c34
             clear c34
             by_cases c35 : x12_4.length < 140737488355328
             ·rw [if_pos c35] at H
              have LMc35 := Aside0.mk c35
              clear c35
              obtain ⟨y254, hy254⟩ : ∃ y_ : List Int, y_ = (x12_4 ++ [rd x7_1 x13_4]) := ⟨_, rfl⟩
              replace H : (r1_reckon.l2 k4 x7_1 y254 (wrap64 (x13_4 - 1))) = some r := by first | (rw [hy254]; with_reducible exact H) | (have H2_ := (Option.bind_some _ _).symm.trans H; rw [hy254]; with_reducible exact H2_) | (have H2_ := (Option.bind_some _ _).symm.trans H; with_reducible exact H2_) | with_reducible exact H | (rw [hy254]; exact H) | exact H
              have Ny254 := Aside0.mk hy254
              clear hy254
              have H' := Aside0.mk H
              clear H
              have p253 : 0 ≤ (x13_4 : Int) := of_decide_eq_true (by first | (with_reducible assumption) | assumption)
              have q253 : x13_4 < (x7_1.length : Int) := of_decide_eq_true (by first | (with_reducible assumption) | assumption)
              obtain ⟨ad253, e253, hx253_0⟩ := Kd.at_int (Kd.R_reads' HO_7.out).2.2 x13_4 p253 q253
              cases e253
              replace p253 := eq_true p253
              replace q253 := eq_true q253
              go_wp2_with (first | ((with_reducible refine gate_builtin (b := .append) (xs := #[.tmp 83, .tmp 88]) rfl ?_); (try (refine gate_guard (by rfl) ?_; dsimp only)); at_builtin; refine Kd.R_append (Kd.int .u8) (w0 := w) w.heap.size rfl (.tmp 83) (.tmp 88) 66 5 (.int .u8 0) 1 rfl Tryz.underlying66 info5 rfl (by decide) (by omega) u12 x12_4 (rd x7_1 x13_4) [.int .u8 (rd x7_1 x13_4)] (fun k_ => some k_ ≠ (.slice (some ad253) x7_1.length co26 : Value).ownBlock) (fun _ => False) rfl rfl ?aP (fun _ hk => hk.elim) ?aF ?aO ?aB ?aS ?aL ?_; (case aP => exact rfl); (case aB => exact (by repeat (first | (with_reducible first | exact HB.out | apply below_alloc | apply pw_below_drewN | apply below_drew1) | exact HB.out))); (case aF => exact (fun k_ hk => Kd.fresh' (Kd.R_lt (by (with_reducible repeat (first | apply Kd.R_alloc | apply Kd.R_drewN | apply Kd.R_drew)); exact HO_7.out)) k_ hk)); (case aO => exact (by (with_reducible repeat (first | apply Kd.R_alloc | apply Kd.R_drewN | apply Kd.R_drew)); exact HO_12.out)); (case aS => exact (below_size (by repeat (first | (with_reducible first | exact HB.out | apply below_alloc | apply pw_below_drewN | apply below_drew1) | exact HB.out)))); (case aL => have := LMc35.out; omega); intro v255 w36 ho hb hg hat; rw [← Ny254.out] at ho; have n0_ := Aside0.mk (Kd.R_after (ok := (fun _ => True)) (by (with_reducible repeat (first | apply Kd.R_alloc | apply Kd.R_drewN | apply Kd.R_drew)); exact Kd.R_mono HO_7.out (fun _ hk => ⟨trivial, hk⟩)) hg hat); have n1_ := Aside0.mk (hb); have n2_ := Aside0.mk (ho); clear HO_7; clear HB; clear HO_12; have HO_7 := n0_; have HB := n1_; have HO256 := n2_; clear n0_ n1_ n2_; clear ho hb hg hat))
              go_roundg k4
              case measure => have := HK1.out; have := HJ3.out; have := HJ24.out; have := HK4.out; omega
              case rel => exact ⟨(y254), (wrap64 (x13_4 - 1)), (by first | rfl | (simp; done) | (simp [bne_nil_]; done) | (simp [*]; done) | (simp [wrap64]; done) | (refine congrArg (Value.int .i64) ?_; unfold wrap64; omega)), H', ⟨by have := HK1.out; have := HJ3.out; have := HJ24.out; have := HK4.out; omega⟩, ⟨by (with_reducible repeat (first | apply Kd.R_alloc | apply Kd.R_drewN | apply Kd.R_drew)); exact Kd.R_mono HO_7.out (fun _ hk => hk.2)⟩, ⟨by (with_reducible repeat (first | apply Kd.R_alloc | apply Kd.R_drewN | apply Kd.R_drew)); exact HO256.out⟩, ⟨by repeat (first | (with_reducible first | exact HB.out | apply below_alloc | apply pw_below_drewN | apply below_drew1) | exact HB.out)⟩⟩
             ·rw [if_neg c35] at H
              exact absurd H (by simp)
            ·rw [if_neg c34] at H
             exact absurd H (by simp)
           ·rw [if_neg c33] at H
            exact absurd H (by simp)
          ·rw [if_neg c32] at H
           have c32b0 : decide (0 ≤ x13_4) = false := decide_eq_false c32
           clear c32
           obtain rfl := Option.some.inj H
           have hcv37 := own_string (P := Tryz.prog) Tryz.underlying66 Tryz.underlying5 Tryz.underlying9 (Kd.own_of_R HO_12.out)
           go_wp2
           go_ret
           exact ⟨by first | rfl | (simp [errW_none, errW_some] <;> rfl) | (simp [*, errW_none, errW_some] <;> rfl), by repeat (first | (with_reducible first | exact HB.out | apply below_alloc | apply pw_below_drewN | apply below_drew1) | exact HB.out)⟩
end Go.Proofs.YthimiidnbnlemaaGreatDoor.P
