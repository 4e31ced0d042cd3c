-- printed by xprint.py (a program of this session's, over the kit's print); Lean checks it
import Derived.Test.YthimiidnbnlemaaGreatDoorNumberValuePx0
import Derived.Test.YthimiidnbnlemaaGreatDoorNumberValuePx17
namespace Go.Proofs.YthimiidnbnlemaaGreatDoor.P
open Go.RowKit Go.Proofs.YthimiidnbnlemaaGreatDoorW.PrintWords Go.Proofs.YthimiidnbnlemaaGreatDoorW.PrintLast Go.Proofs.YthimiidnbnlemaaGreatDoorW.PrintMore Go.Proofs.YthimiidnbnlemaaGreatDoorX
attribute [local go_sem] max2_int min2_int max_two min_two max_three min_three max_four min_four   -- for this text's walks alone
set_option linter.unusedVariables false
set_option linter.unusedSimpArgs false
def abridgerlaw5_text.l0 : Nat → Int → ByteArray → Option (ByteArray)
 | 0, _, _ => none
 | k + 1, x1, x7 => if (x7.size : Int) < 7 then (if 1 + x7.size ≤ 9223372036854775807 then (abridgerlaw5_text.l0 k x1 ((⟨#[48]⟩ : ByteArray) ++ x7)) else (none)) else (if 0 ≤ (wrap64 ((x7.size : Int) - 3)) then (if (wrap64 ((x7.size : Int) - 3)) ≤ (x7.size : Int) then (if (x7.extract 0 ((wrap64 ((x7.size : Int) - 3)) : Int).toNat).size + 1 ≤ 9223372036854775807 then (if ((x7.extract 0 ((wrap64 ((x7.size : Int) - 3)) : Int).toNat) ++ (⟨#[46]⟩ : ByteArray)).size + (x7.extract ((wrap64 ((x7.size : Int) - 3)) : Int).toNat x7.size).size ≤ 9223372036854775807 then (if (((x7.extract 0 ((wrap64 ((x7.size : Int) - 3)) : Int).toNat) ++ (⟨#[46]⟩ : ByteArray)) ++ (x7.extract ((wrap64 ((x7.size : Int) - 3)) : Int).toNat x7.size)).size + 1 ≤ 9223372036854775807 then ((abridgerref1_Dec.f k (wrap64 (x1 + 3))).bind fun t367 => (if ((((x7.extract 0 ((wrap64 ((x7.size : Int) - 3)) : Int).toNat) ++ (⟨#[46]⟩ : ByteArray)) ++ (x7.extract ((wrap64 ((x7.size : Int) - 3)) : Int).toNat x7.size)) ++ (⟨#[101]⟩ : ByteArray)).size + t367.size ≤ 9223372036854775807 then (some (((((x7.extract 0 ((wrap64 ((x7.size : Int) - 3)) : Int).toNat) ++ (⟨#[46]⟩ : ByteArray)) ++ (x7.extract ((wrap64 ((x7.size : Int) - 3)) : Int).toNat x7.size)) ++ (⟨#[101]⟩ : ByteArray)) ++ t367)) else (none))) else (none)) else (none)) else (none)) else (none)) else (none))
def abridgerlaw5_text.f (k : Nat) (a0 : Int) (a1 : Int) (a2 : Bool) : Option (ByteArray) := (abridgerref1_Dec.f k a0).bind fun t366 => (if a2 = true then (abridgerlaw5_text.l0 k a1 t366) else (if t366.size + 1 ≤ 9223372036854775807 then ((abridgerref1_Dec.f k a1).bind fun t368 => (if (t366 ++ (⟨#[69]⟩ : ByteArray)).size + t368.size ≤ 9223372036854775807 then (some ((t366 ++ (⟨#[69]⟩ : ByteArray)) ++ t368)) else (none))) else (none)))
theorem abridgerlaw5_text.mono_l : ∀ k, (∀ y0 y1, LeO (abridgerlaw5_text.l0 k y0 y1) (abridgerlaw5_text.l0 (k + 1) y0 y1))
 | 0 => fun _ _ r h => by simp [abridgerlaw5_text.l0] at h
 | k + 1 => by
  have ih0 := abridgerlaw5_text.mono_l k
  ·intro y0 y1
   unfold abridgerlaw5_text.l0
   repeat' first
   | (with_reducible exact ih0 _ _)
   | (with_reducible exact abridgerref1_Dec.mono _ _)
   | (with_reducible exact LeO.refl _)
   | (with_reducible exact LeO.none _)
   | (with_reducible refine LeO.ite ?_ ?_)
   | (with_reducible refine LeO.bind ?_ (fun _ => ?_))
   | exact ih0 _ _
   | exact abridgerref1_Dec.mono _ _
   | exact LeO.none _
   | refine LeO.ite ?_ ?_
   | refine LeO.bind ?_ (fun _ => ?_)
theorem abridgerlaw5_text.mono : ∀ a0 a1 a2 k, LeO (abridgerlaw5_text.f k a0 a1 a2) (abridgerlaw5_text.f (k + 1) a0 a1 a2) := by
 intro a0 a1 a2 k
 have ih0 := abridgerlaw5_text.mono_l k
 unfold abridgerlaw5_text.f
 repeat' first
   | (with_reducible exact ih0 _ _)
   | (with_reducible exact abridgerref1_Dec.mono _ _)
   | (with_reducible exact LeO.refl _)
   | (with_reducible exact LeO.none _)
   | (with_reducible refine LeO.ite ?_ ?_)
   | (with_reducible refine LeO.bind ?_ (fun _ => ?_))
   | exact ih0 _ _
   | exact abridgerref1_Dec.mono _ _
   | exact LeO.none _
   | refine LeO.ite ?_ ?_
   | refine LeO.bind ?_ (fun _ => ?_)
set_option maxHeartbeats 8000000 in
set_option maxRecDepth 100000 in
theorem abridgerlaw5_text.calls (k : Nat) (a0 : Int) (a1 : Int) (a2 : Bool) (r : ByteArray) (w : World) (h : abridgerlaw5_text.f k a0 a1 a2 = some r) :
  Calls Tryz.prog 17 #[.int .i64 a0, .int .i64 a1, .bool a2] w fun e w' => e = .returned (.string r) ∧ Drawn0 w w' := by
 have H : ((abridgerref1_Dec.f k a0).bind fun t366 => (if a2 = true then (abridgerlaw5_text.l0 k a1 t366) else (if t366.size + 1 ≤ 9223372036854775807 then ((abridgerref1_Dec.f k a1).bind fun t368 => (if (t366 ++ (⟨#[69]⟩ : ByteArray)).size + t368.size ≤ 9223372036854775807 then (some ((t366 ++ (⟨#[69]⟩ : ByteArray)) ++ t368)) else (none))) else (none)))) = some r := h
 clear h
 replace H := Option.bind_eq_some_iff.mp H
 obtain ⟨t366, A40, H⟩ := H
 replace H : (if a2 = true then (abridgerlaw5_text.l0 k a1 t366) else (if t366.size + 1 ≤ 9223372036854775807 then ((abridgerref1_Dec.f k a1).bind fun t368 => (if (t366 ++ (⟨#[69]⟩ : ByteArray)).size + t368.size ≤ 9223372036854775807 then (some ((t366 ++ (⟨#[69]⟩ : ByteArray)) ++ t368)) else (none))) else (none))) = some r := H
 have A4 := Aside0.mk A40
 clear A40
 by_cases c5 : a2 = true
 ·subst c5
  have H1 : (abridgerlaw5_text.l0 k a1 t366) = some r := by rw [if_pos rfl] at H; exact H
  clear H
  have H := H1
  clear H1
  have H' := Aside0.mk H
  clear H
  go_enter Tryz.func17, Tryz.ntmps17
  go_wp2_with (first | (go_at_call 29; (with_reducible refine (abridgerref1_Dec.calls k a0 t366 _ A4.out).mono ?_); rintro e w' ⟨rfl, ⟨nd, rfl⟩⟩; (try first | exact ⟨rfl, _, World.drewN_drewN _ _ _⟩ | exact ⟨rfl, _, Eq.trans (World.drewN_drewN _ _ _) (congrArg (World.drewN _) (Nat.add_assoc _ _ _))⟩)))
  repeat (go_quiet (first | (go_at_call 29; (with_reducible refine (abridgerref1_Dec.calls k a0 t366 _ A4.out).mono ?_); rintro e w' ⟨rfl, ⟨nd, rfl⟩⟩; (try first | exact ⟨rfl, _, World.drewN_drewN _ _ _⟩ | exact ⟨rfl, _, Eq.trans (World.drewN_drewN _ _ _) (congrArg (World.drewN _) (Nat.add_assoc _ _ _))⟩))); try go_wp2_with (first | (go_at_call 29; (with_reducible refine (abridgerref1_Dec.calls k a0 t366 _ A4.out).mono ?_); rintro e w' ⟨rfl, ⟨nd, rfl⟩⟩; (try first | exact ⟨rfl, _, World.drewN_drewN _ _ _⟩ | exact ⟨rfl, _, Eq.trans (World.drewN_drewN _ _ _) (congrArg (World.drewN _) (Nat.add_assoc _ _ _))⟩))))
  go_loopg [7] k (fun kq v7 w' => ∃ (x7_1 : ByteArray), v7 = .string x7_1 ∧ Aside0 (abridgerlaw5_text.l0 kq a1 x7_1 = some r) ∧ Aside0 (kq ≤ k) ∧ Drawn0 w w')
  case atStart => exact ⟨(t366), (by first | rfl | (simp; done) | (simp [bne_nil_]; done) | (simp [*]; done) | (simp [wrap64]; done) | (refine congrArg (Value.int .i64) ?_; unfold wrap64; omega)), H', ⟨Nat.le_refl _⟩, by repeat (first | exact Drawn0.refl _ | apply Drawn0.step)⟩
  case round =>
   clear H'
   try clear c1
   try clear p2
   try clear c5
   obtain ⟨x7_1, rfl, HA, HK1, ⟨m1, rfl⟩⟩ := hrel
   cases gk with
   | zero => exact absurd HA.out (by simp [abridgerlaw5_text.l0])
   | succ k1 =>
    have H := HA.out
    clear HA
    simp only [abridgerlaw5_text.l0] at H
    by_cases c6 : (x7_1.size : Int) < 7
    ·rw [if_pos c6] at H
     have c6b0 : decide ((x7_1.size : Int) < 7) = true := decide_eq_true c6
     have c6b1 : decide (x7_1.size < 7) = true := decide_eq_true (by omega)
     clear c6
     by_cases c7 : 1 + x7_1.size ≤ 9223372036854775807
     ·rw [if_pos c7] at H
      have c7b0 := eq_true c7
      have c7b1 : decide (1 + x7_1.size ≤ 9223372036854775807) = true := decide_eq_true c7
      try have c7b2 : (9223372036854775807 < 1 + x7_1.size) = False := eq_false (Nat.not_lt.2 c7)
      have H' := Aside0.mk H
      clear H
      go_wp2
      repeat (go_quiet (fail); try go_wp2)
      go_roundg k1
      case measure => have := HK1.out; omega
      case rel => exact ⟨((⟨#[48]⟩ : ByteArray) ++ x7_1), (by first | rfl | (simp; done) | (simp [bne_nil_]; done) | (simp [*]; done) | (simp [wrap64]; done) | (refine congrArg (Value.int .i64) ?_; unfold wrap64; omega)), H', ⟨by have := HK1.out; omega⟩, by repeat (first | exact Drawn0.refl _ | apply Drawn0.step)⟩
     ·rw [if_neg c7] at H
      exact absurd H (by simp)
    ·rw [if_neg c6] at H
     have c6b0 : decide ((x7_1.size : Int) < 7) = false := decide_eq_false c6
     have c6b1 : decide (x7_1.size < 7) = false := decide_eq_false (by omega)
     clear c6
     obtain ⟨ji8, hji8⟩ : ∃ j_ : Int, (wrap64 ((x7_1.size : Int) - 3)) = j_ := ⟨_, rfl⟩
     replace H : (if 0 ≤ (ji8) then (if (ji8) ≤ (x7_1.size : Int) then (if (x7_1.extract 0 ((ji8) : Int).toNat).size + 1 ≤ 9223372036854775807 then (if ((x7_1.extract 0 ((ji8) : Int).toNat) ++ (⟨#[46]⟩ : ByteArray)).size + (x7_1.extract ((ji8) : Int).toNat x7_1.size).size ≤ 9223372036854775807 then (if (((x7_1.extract 0 ((ji8) : Int).toNat) ++ (⟨#[46]⟩ : ByteArray)) ++ (x7_1.extract ((ji8) : Int).toNat x7_1.size)).size + 1 ≤ 9223372036854775807 then ((abridgerref1_Dec.f k1 (wrap64 (a1 + 3))).bind fun t367 => (if ((((x7_1.extract 0 ((ji8) : Int).toNat) ++ (⟨#[46]⟩ : ByteArray)) ++ (x7_1.extract ((ji8) : Int).toNat x7_1.size)) ++ (⟨#[101]⟩ : ByteArray)).size + t367.size ≤ 9223372036854775807 then (some (((((x7_1.extract 0 ((ji8) : Int).toNat) ++ (⟨#[46]⟩ : ByteArray)) ++ (x7_1.extract ((ji8) : Int).toNat x7_1.size)) ++ (⟨#[101]⟩ : ByteArray)) ++ t367)) else (none))) else (none)) else (none)) else (none)) else (none)) else (none)) = some r := by first | (rw [hji8] at H; exact H) | (simp only [hji8] at H ⊢; exact H)
     have hji8w : (IntKind.i64.wrap ((x7_1.size : Int) - 3)) = ji8 := (i64_w _).trans hji8
     by_cases c9 : 0 ≤ (ji8)
     ·rw [if_pos c9] at H
      have c9b0 := eq_true c9
      have c9b1 : decide (0 ≤ (ji8)) = true := decide_eq_true c9
      clear c9
      by_cases c10 : (ji8) ≤ (x7_1.size : Int)
      ·rw [if_pos c10] at H
       have c10b0 := eq_true c10
       have c10b1 : decide ((ji8) ≤ (x7_1.size : Int)) = true := decide_eq_true c10
       clear c10
       by_cases c11 : (x7_1.extract 0 ((ji8) : Int).toNat).size + 1 ≤ 9223372036854775807
       ·rw [if_pos c11] at H
        have c11b0 := eq_true c11
        have c11b1 : decide ((x7_1.extract 0 ((ji8) : Int).toNat).size + 1 ≤ 9223372036854775807) = true := decide_eq_true c11
        try have c11b2 : (9223372036854775807 < (x7_1.extract 0 ((ji8) : Int).toNat).size + 1) = False := eq_false (Nat.not_lt.2 c11)
        (try (have c11b3 : (9223372036854775807 < ji8.toNat + 1) = False := eq_false (Nat.not_lt.2 (by have h_ := c11; (try simp only [ByteArray.size_append, ByteArray.size_extract] at h_); (try simp only [decide_eq_true_eq] at *); omega))))
        have c12b0 := eq_true (of_decide_eq_true (by first | (with_reducible assumption) | assumption) : 0 ≤ (ji8))
        have c13b0 := eq_true (of_decide_eq_true (by first | (with_reducible assumption) | assumption) : (ji8) ≤ (x7_1.size : Int))
        by_cases c14 : ((x7_1.extract 0 ((ji8) : Int).toNat) ++ (⟨#[46]⟩ : ByteArray)).size + (x7_1.extract ((ji8) : Int).toNat x7_1.size).size ≤ 9223372036854775807
        ·rw [if_pos c14] at H
         have c14b0 := eq_true c14
         have c14b1 : decide (((x7_1.extract 0 ((ji8) : Int).toNat) ++ (⟨#[46]⟩ : ByteArray)).size + (x7_1.extract ((ji8) : Int).toNat x7_1.size).size ≤ 9223372036854775807) = true := decide_eq_true c14
         try have c14b2 : (9223372036854775807 < ((x7_1.extract 0 ((ji8) : Int).toNat) ++ (⟨#[46]⟩ : ByteArray)).size + (x7_1.extract ((ji8) : Int).toNat x7_1.size).size) = False := eq_false (Nat.not_lt.2 c14)
         (try (have c14b3 : (9223372036854775807 < ji8.toNat + 1 + (x7_1.size - ji8.toNat)) = False := eq_false (Nat.not_lt.2 (by have h_ := c14; have e0_ : (⟨#[46]⟩ : ByteArray).size = 1 := rfl; (try simp only [ByteArray.size_append, ByteArray.size_extract, e0_] at h_); (try simp only [decide_eq_true_eq] at *); omega))))
         by_cases c15 : (((x7_1.extract 0 ((ji8) : Int).toNat) ++ (⟨#[46]⟩ : ByteArray)) ++ (x7_1.extract ((ji8) : Int).toNat x7_1.size)).size + 1 ≤ 9223372036854775807
         ·rw [if_pos c15] at H
          have c15b0 := eq_true c15
          have c15b1 : decide ((((x7_1.extract 0 ((ji8) : Int).toNat) ++ (⟨#[46]⟩ : ByteArray)) ++ (x7_1.extract ((ji8) : Int).toNat x7_1.size)).size + 1 ≤ 9223372036854775807) = true := decide_eq_true c15
          try have c15b2 : (9223372036854775807 < (((x7_1.extract 0 ((ji8) : Int).toNat) ++ (⟨#[46]⟩ : ByteArray)) ++ (x7_1.extract ((ji8) : Int).toNat x7_1.size)).size + 1) = False := eq_false (Nat.not_lt.2 c15)
          (try (have c15b3 : (9223372036854775807 < ji8.toNat + 1 + (x7_1.size - ji8.toNat) + 1) = False := eq_false (Nat.not_lt.2 (by have h_ := c15; have e0_ : (⟨#[46]⟩ : ByteArray).size = 1 := rfl; (try simp only [ByteArray.size_append, ByteArray.size_extract, e0_] at h_); (try simp only [decide_eq_true_eq] at *); omega))))
          replace H := Option.bind_eq_some_iff.mp H
          obtain ⟨t367, A160, H⟩ := H
          replace H : (if ((((x7_1.extract 0 ((ji8) : Int).toNat) ++ (⟨#[46]⟩ : ByteArray)) ++ (x7_1.extract ((ji8) : Int).toNat x7_1.size)) ++ (⟨#[101]⟩ : ByteArray)).size + t367.size ≤ 9223372036854775807 then (some (((((x7_1.extract 0 ((ji8) : Int).toNat) ++ (⟨#[46]⟩ : ByteArray)) ++ (x7_1.extract ((ji8) : Int).toNat x7_1.size)) ++ (⟨#[101]⟩ : ByteArray)) ++ t367)) else (none)) = some r := H
          have A16 := Aside0.mk A160
          clear A160
          by_cases c17 : ((((x7_1.extract 0 ((ji8) : Int).toNat) ++ (⟨#[46]⟩ : ByteArray)) ++ (x7_1.extract ((ji8) : Int).toNat x7_1.size)) ++ (⟨#[101]⟩ : ByteArray)).size + t367.size ≤ 9223372036854775807
          ·rw [if_pos c17] at H
           have c17b0 := eq_true c17
           have c17b1 : decide (((((x7_1.extract 0 ((ji8) : Int).toNat) ++ (⟨#[46]⟩ : ByteArray)) ++ (x7_1.extract ((ji8) : Int).toNat x7_1.size)) ++ (⟨#[101]⟩ : ByteArray)).size + t367.size ≤ 9223372036854775807) = true := decide_eq_true c17
           try have c17b2 : (9223372036854775807 < ((((x7_1.extract 0 ((ji8) : Int).toNat) ++ (⟨#[46]⟩ : ByteArray)) ++ (x7_1.extract ((ji8) : Int).toNat x7_1.size)) ++ (⟨#[101]⟩ : ByteArray)).size + t367.size) = False := eq_false (Nat.not_lt.2 c17)
           (try (have c17b3 : (9223372036854775807 < ji8.toNat + 1 + (x7_1.size - ji8.toNat) + 1 + t367.size) = False := eq_false (Nat.not_lt.2 (by have h_ := c17; have e0_ : (⟨#[101]⟩ : ByteArray).size = 1 := rfl; have e1_ : (⟨#[46]⟩ : ByteArray).size = 1 := rfl; (try simp only [ByteArray.size_append, ByteArray.size_extract, e0_, e1_] at h_); (try simp only [decide_eq_true_eq] at *); omega))))
           obtain rfl := Option.some.inj H
           go_wp2_with (first | (go_at_call 29; (with_reducible refine (abridgerref1_Dec.calls k1 (wrap64 (a1 + 3)) t367 _ A16.out).mono ?_); rintro e w' ⟨rfl, ⟨nd, rfl⟩⟩; (try first | exact ⟨rfl, _, World.drewN_drewN _ _ _⟩ | exact ⟨rfl, _, Eq.trans (World.drewN_drewN _ _ _) (congrArg (World.drewN _) (Nat.add_assoc _ _ _))⟩)))
           repeat (go_quiet (first | (go_at_call 29; (with_reducible refine (abridgerref1_Dec.calls k1 (wrap64 (a1 + 3)) t367 _ A16.out).mono ?_); rintro e w' ⟨rfl, ⟨nd, rfl⟩⟩; (try first | exact ⟨rfl, _, World.drewN_drewN _ _ _⟩ | exact ⟨rfl, _, Eq.trans (World.drewN_drewN _ _ _) (congrArg (World.drewN _) (Nat.add_assoc _ _ _))⟩))); try go_wp2_with (first | (go_at_call 29; (with_reducible refine (abridgerref1_Dec.calls k1 (wrap64 (a1 + 3)) t367 _ A16.out).mono ?_); rintro e w' ⟨rfl, ⟨nd, rfl⟩⟩; (try first | exact ⟨rfl, _, World.drewN_drewN _ _ _⟩ | exact ⟨rfl, _, Eq.trans (World.drewN_drewN _ _ _) (congrArg (World.drewN _) (Nat.add_assoc _ _ _))⟩))))
           go_ret
           exact ⟨by first | rfl | (simp; done) | (simp only [← hji8] <;> (first | rfl | simp)) | (simp [*]; done), by repeat (first | exact Drawn0.refl _ | apply Drawn0.step)⟩
          ·rw [if_neg c17] at H
           exact absurd H (by simp)
         ·rw [if_neg c15] at H
          exact absurd H (by simp)
        ·rw [if_neg c14] at H
         exact absurd H (by simp)
       ·rw [if_neg c11] at H
        exact absurd H (by simp)
      ·rw [if_neg c10] at H
       exact absurd H (by simp)
     ·rw [if_neg c9] at H
      exact absurd H (by simp)
 ·replace c5 := Bool.eq_false_iff.mpr c5
  subst c5
  have H1 : (if t366.size + 1 ≤ 9223372036854775807 then ((abridgerref1_Dec.f k a1).bind fun t368 => (if (t366 ++ (⟨#[69]⟩ : ByteArray)).size + t368.size ≤ 9223372036854775807 then (some ((t366 ++ (⟨#[69]⟩ : ByteArray)) ++ t368)) else (none))) else (none)) = some r := by rw [if_neg (show ¬ (false = true) by decide)] at H; exact H
  clear H
  have H := H1
  clear H1
  by_cases c18 : t366.size + 1 ≤ 9223372036854775807
  ·rw [if_pos c18] at H
   have c18b0 := eq_true c18
   have c18b1 : decide (t366.size + 1 ≤ 9223372036854775807) = true := decide_eq_true c18
   try have c18b2 : (9223372036854775807 < t366.size + 1) = False := eq_false (Nat.not_lt.2 c18)
   replace H := Option.bind_eq_some_iff.mp H
   obtain ⟨t368, A190, H⟩ := H
   replace H : (if (t366 ++ (⟨#[69]⟩ : ByteArray)).size + t368.size ≤ 9223372036854775807 then (some ((t366 ++ (⟨#[69]⟩ : ByteArray)) ++ t368)) else (none)) = some r := H
   have A19 := Aside0.mk A190
   clear A190
   by_cases c20 : (t366 ++ (⟨#[69]⟩ : ByteArray)).size + t368.size ≤ 9223372036854775807
   ·rw [if_pos c20] at H
    have c20b0 := eq_true c20
    have c20b1 : decide ((t366 ++ (⟨#[69]⟩ : ByteArray)).size + t368.size ≤ 9223372036854775807) = true := decide_eq_true c20
    try have c20b2 : (9223372036854775807 < (t366 ++ (⟨#[69]⟩ : ByteArray)).size + t368.size) = False := eq_false (Nat.not_lt.2 c20)
    (try (have c20b3 : (9223372036854775807 < t366.size + 1 + t368.size) = False := eq_false (Nat.not_lt.2 (by have h_ := c20; have e0_ : (⟨#[69]⟩ : ByteArray).size = 1 := rfl; (try simp only [ByteArray.size_append, ByteArray.size_extract, e0_] at h_); (try simp only [decide_eq_true_eq] at *); omega))))
    obtain rfl := Option.some.inj H
    go_enter Tryz.func17, Tryz.ntmps17
    go_wp2_with (first | (go_at_call 29; (with_reducible refine (abridgerref1_Dec.calls k a0 t366 _ A4.out).mono ?_); rintro e w' ⟨rfl, ⟨nd, rfl⟩⟩; (try first | exact ⟨rfl, _, World.drewN_drewN _ _ _⟩ | exact ⟨rfl, _, Eq.trans (World.drewN_drewN _ _ _) (congrArg (World.drewN _) (Nat.add_assoc _ _ _))⟩)) | (go_at_call 29; (with_reducible refine (abridgerref1_Dec.calls k a1 t368 _ A19.out).mono ?_); rintro e w' ⟨rfl, ⟨nd, rfl⟩⟩; (try first | exact ⟨rfl, _, World.drewN_drewN _ _ _⟩ | exact ⟨rfl, _, Eq.trans (World.drewN_drewN _ _ _) (congrArg (World.drewN _) (Nat.add_assoc _ _ _))⟩)))
    repeat (go_quiet (first | (go_at_call 29; (with_reducible refine (abridgerref1_Dec.calls k a0 t366 _ A4.out).mono ?_); rintro e w' ⟨rfl, ⟨nd, rfl⟩⟩; (try first | exact ⟨rfl, _, World.drewN_drewN _ _ _⟩ | exact ⟨rfl, _, Eq.trans (World.drewN_drewN _ _ _) (congrArg (World.drewN _) (Nat.add_assoc _ _ _))⟩)) | (go_at_call 29; (with_reducible refine (abridgerref1_Dec.calls k a1 t368 _ A19.out).mono ?_); rintro e w' ⟨rfl, ⟨nd, rfl⟩⟩; (try first | exact ⟨rfl, _, World.drewN_drewN _ _ _⟩ | exact ⟨rfl, _, Eq.trans (World.drewN_drewN _ _ _) (congrArg (World.drewN _) (Nat.add_assoc _ _ _))⟩))); try go_wp2_with (first | (go_at_call 29; (with_reducible refine (abridgerref1_Dec.calls k a0 t366 _ A4.out).mono ?_); rintro e w' ⟨rfl, ⟨nd, rfl⟩⟩; (try first | exact ⟨rfl, _, World.drewN_drewN _ _ _⟩ | exact ⟨rfl, _, Eq.trans (World.drewN_drewN _ _ _) (congrArg (World.drewN _) (Nat.add_assoc _ _ _))⟩)) | (go_at_call 29; (with_reducible refine (abridgerref1_Dec.calls k a1 t368 _ A19.out).mono ?_); rintro e w' ⟨rfl, ⟨nd, rfl⟩⟩; (try first | exact ⟨rfl, _, World.drewN_drewN _ _ _⟩ | exact ⟨rfl, _, Eq.trans (World.drewN_drewN _ _ _) (congrArg (World.drewN _) (Nat.add_assoc _ _ _))⟩))))
    go_ret
    exact ⟨by first | rfl | (simp; done) | (simp [bne_nil_]; done) | (simp [*]; done) | (simp [wrap64]; done) | (refine congrArg (Value.int .i64) ?_; unfold wrap64; omega), by repeat (first | exact Drawn0.refl _ | apply Drawn0.step)⟩
   ·rw [if_neg c20] at H
    exact absurd H (by simp)
  ·rw [if_neg c18] at H
   exact absurd H (by simp)
end Go.Proofs.YthimiidnbnlemaaGreatDoor.P
