import Derived.Test.YthonpnaccjajcaaGreatDoorColourWherePx36
import Derived.Test.YthonpnaccjajcaaGreatDoorColourWherePx37
import Derived.Test.YthonpnaccjajcaaGreatDoorColourWherePx38
namespace Go.Proofs.YthonpnaccjajcaaGreatDoor.P
open Go.RowKit Go.Proofs.YthonpnaccjajcaaGreatDoorW.PrintWords Go.Proofs.YthonpnaccjajcaaGreatDoorW.PrintLast Go.Proofs.YthonpnaccjajcaaGreatDoorW.PrintMore Go.Proofs.YthonpnaccjajcaaGreatDoorX
attribute [local go_sem] max2_int min2_int max_two min_two max_three min_three max_four min_four
set_option linter.unusedVariables false
set_option linter.unusedSimpArgs false
mutual
def r13_one.j4 : Nat → Int → Int → ByteArray → Option (Int × ByteArray × ByteArray × Bool × ByteArray × ByteArray × Bool × Bool × Int × Int × Int × Int × Int × Int)
 | 0, _, _, _ => none
 | k + 1, x1, x6, x7 => r13_one.l2 k x1 x6 x7 0
def r13_one.l2 : Nat → Int → Int → ByteArray → Int → Option (Int × ByteArray × ByteArray × Bool × ByteArray × ByteArray × Bool × Bool × Int × Int × Int × Int × Int × Int)
 | 0, _, _, _, _ => none
 | k + 1, x1, x6, x7, x16 => if x16 < (x7.size : Int) then (if 0 ≤ x16 then (if (wrap64 (bt x7 x16)) = x6 then (some (wrap64 (16 + x16), (⟨#[]⟩ : ByteArray), (⟨#[]⟩ : ByteArray), false, (⟨#[]⟩ : ByteArray), (⟨#[]⟩ : ByteArray), false, false, 0, 0, 0, 0, 0, wrap64 (x1 + 1))) else (r13_one.l2 k x1 x6 x7 (wrap64 (x16 + 1)))) else (none)) else (none)
def r13_one.l1 : Nat → List (S53) → Int → Int → Option (Int × ByteArray × ByteArray × Bool × ByteArray × ByteArray × Bool × Bool × Int × Int × Int × Int × Int × Int)
 | 0, _, _, _ => none
 | k + 1, x0, x6, x10 => (r13_at.f x0 x10).bind fun t382 => ((r13_blank.f t382).bind fun t383 => (if t383 = true then (r13_one.l1 k x0 x6 (wrap64 (x10 + 1))) else (if x6 = 10 then (none) else (some (13, (⟨#[32]⟩ : ByteArray), (⟨#[]⟩ : ByteArray), false, (⟨#[]⟩ : ByteArray), (⟨#[]⟩ : ByteArray), false, false, 0, 0, 0, 0, 0, x10)))))
def r13_one.j2 : Nat → List (S53) → Int → Int → ByteArray → Bool → Option (Int × ByteArray × ByteArray × Bool × ByteArray × ByteArray × Bool × Bool × Int × Int × Int × Int × Int × Int)
 | 0, _, _, _, _, _ => none
 | k + 1, x0, x1, x6, x7, x72 => if x72 = true then (none) else (if x6 = 35 then ((r13_at.f x0 (wrap64 (x1 + 1))).bind fun t385 => ((r13_In.f t385).bind fun t386 => (if t386 = true then (r13_one.j3 k x0 x1 x6 x7 true) else (none)))) else (r13_one.j3 k x0 x1 x6 x7 false))
def r13_one.j3 : Nat → List (S53) → Int → Int → ByteArray → Bool → Option (Int × ByteArray × ByteArray × Bool × ByteArray × ByteArray × Bool × Bool × Int × Int × Int × Int × Int × Int)
 | 0, _, _, _, _, _ => none
 | k + 1, x0, x1, x6, x7, x84 => if x84 = true then ((r13_Take.f k x0 (wrap64 (x1 + 1))).bind fun bt388 => ((r13_Begins.f k x0 (wrap64 (x1 + 1))).bind fun t390 => (some (4, bt388.1, (⟨#[]⟩ : ByteArray), false, (⟨#[]⟩ : ByteArray), (⟨#[]⟩ : ByteArray), t390, false, 0, 0, 0, 0, 0, bt388.2)))) else ((r13_numeral.f k x0 x1).bind fun t391 => (if t391 = true then (none) else ((r13_follows.f k x0 x1 (⟨#[45, 45, 62]⟩ : ByteArray)).bind fun t392 => (if t392 = true then (none) else ((r13_follows.f k x0 x1 (⟨#[60, 33, 45, 45]⟩ : ByteArray)).bind fun t393 => (if t393 = true then (none) else ((r13_Begins.f k x0 x1).bind fun t394 => (if t394 = true then ((r13_named.f k x0 x1).bind fun bt395 => (some (bt395.1, bt395.2.1, bt395.2.2.1, bt395.2.2.2.1, bt395.2.2.2.2.1, bt395.2.2.2.2.2.1, bt395.2.2.2.2.2.2.1, bt395.2.2.2.2.2.2.2.1, bt395.2.2.2.2.2.2.2.2.1, bt395.2.2.2.2.2.2.2.2.2.1, bt395.2.2.2.2.2.2.2.2.2.2.1, bt395.2.2.2.2.2.2.2.2.2.2.2.1, bt395.2.2.2.2.2.2.2.2.2.2.2.2.1, bt395.2.2.2.2.2.2.2.2.2.2.2.2.2))) else (if x6 = 64 then (none) else (r13_one.j4 k x1 x6 x7))))))))))
end
def r13_one.f (k : Nat) (l0 : List (S53)) (a1 : Int) : Option (Int × ByteArray × ByteArray × Bool × ByteArray × ByteArray × Bool × Bool × Int × Int × Int × Int × Int × Int) := if 0 ≤ a1 then (if a1 < (l0.length : Int) then ((r13_follows.f k l0 a1 (⟨#[47, 42]⟩ : ByteArray)).bind fun t379 => (if t379 = true then (none) else ((r13_blank.f ((rd_T53 l0 a1).f0)).bind fun t381 => (if t381 = true then (r13_one.l1 k l0 ((rd_T53 l0 a1).f0) a1) else (if ((rd_T53 l0 a1).f0) = 34 then (none) else (r13_one.j2 k l0 a1 ((rd_T53 l0 a1).f0) (⟨#[58, 59, 44, 123, 125, 40, 41, 91, 93]⟩ : ByteArray) (((rd_T53 l0 a1).f0) == 39))))))) else (none)) else (none)
set_option maxHeartbeats 8000000 in
set_option maxRecDepth 100000 in
theorem r13_one.calls (k : Nat) (A0 : Option Addr) (c0 : Nat) (l0 : List (S53)) (a1 : Int) (r1 : Int) (r2 : ByteArray) (r3 : ByteArray) (r4 : Bool) (r5 : ByteArray) (r6 : ByteArray) (r7 : Bool) (r8 : Bool) (r9 : Int) (r10 : Int) (r11 : Int) (r12 : Int) (r13 : Int) (r14 : Int) (w : World) (hr0 : Kd.C k53 w A0 l0.length l0) (hc0 : l0.length ≤ c0) (h : r13_one.f k l0 a1 = some (r1, r2, r3, r4, r5, r6, r7, r8, r9, r10, r11, r12, r13, r14)) :
  Calls Tryz.prog 23 #[.slice A0 l0.length c0, .int .i64 a1] w fun e w' => e = .returned (.tuple #[.agg #[.int .i64 r1, .string r2, .string r3, .bool r4, .string r5, .string r6, .bool r7, .bool r8, .int .i64 r9, .int .i64 r10, .int .i64 r11, .int .i64 r12, .int .i64 r13], .int .i64 r14]) ∧ Below w.heap.size w w' := by
 have hu35 := Tryz.underlying35
 have HR0 := Aside0.mk hr0
 have HC0 := Aside0.mk hc0
 clear hr0 hc0
 have HB := Aside0.mk (Below.refl w.heap.size w)
 have H : (if 0 ≤ a1 then (if a1 < (l0.length : Int) then ((r13_follows.f k l0 a1 (⟨#[47, 42]⟩ : ByteArray)).bind fun t379 => (if t379 = true then (none) else ((r13_blank.f ((rd_T53 l0 a1).f0)).bind fun t381 => (if t381 = true then (r13_one.l1 k l0 ((rd_T53 l0 a1).f0) a1) else (if ((rd_T53 l0 a1).f0) = 34 then (none) else (r13_one.j2 k l0 a1 ((rd_T53 l0 a1).f0) (⟨#[58, 59, 44, 123, 125, 40, 41, 91, 93]⟩ : ByteArray) (((rd_T53 l0 a1).f0) == 39))))))) else (none)) else (none)) = some (r1, r2, r3, r4, r5, r6, r7, r8, r9, r10, r11, r12, r13, r14) := h
 clear h
 by_cases c3 : 0 ≤ a1
 ·rw [if_pos c3] at H
  have c3b0 : decide (0 ≤ a1) = true := decide_eq_true c3
  clear c3
  by_cases c4 : a1 < (l0.length : Int)
  ·rw [if_pos c4] at H
   have c4b0 : decide (a1 < (l0.length : Int)) = true := decide_eq_true c4
   clear c4
   have HC5 := Aside0.mk H
   clear H
   go_enter Tryz.func23, Tryz.ntmps23
   go_upto_block 0 with (first | ((with_reducible refine gate_dst (N := 4) rfl ?_); refine box_event ?hg (N := 4) ?hd (cs := #[.int .i64 0, .string (⟨#[]⟩ : ByteArray), .string (⟨#[]⟩ : ByteArray), .bool false, .string (⟨#[]⟩ : ByteArray), .string (⟨#[]⟩ : ByteArray), .bool false, .bool false, .int .i64 0, .int .i64 0, .int .i64 0, .int .i64 0, .int .i64 0]) (t := 35) ?hr ?_; (case hd => rfl); (case hg => rfl); (case hr => first | (go_simp; done) | (go_simp; rfl)); intro gb377 hg w6 hbox hb; have n0_ := Aside0.mk (below_step (hbP0 HB.out) hb); have n1_ := Aside0.mk (hbox); have n2_ := Aside0.mk ((by rw [hg]; exact (below_size (hbP0 HB.out)) : w.heap.size ≤ gb377)); have n3_ := Aside0.mk ((by rw [hg]; exact (below_size (hbP0 HB.out)) : w.heap.size ≤ gb377)); clear HB; have HB := n0_; have BK377 := n1_; have GW377 := n2_; have GE377 := n3_; clear n0_ n1_ n2_ n3_; clear hb hbox hg; have p378 : 0 ≤ (a1 : Int) := of_decide_eq_true (by first | (with_reducible assumption) | assumption); have q378 : a1 < (l0.length : Int) := of_decide_eq_true (by first | (with_reducible assumption) | assumption); obtain ⟨ad378, e378, hx378_0, hx378_1⟩ := at_T53 HR0.out a1 p378 q378; cases e378; replace hx378_0 := clB HB.out hx378_0; replace hx378_1 := clB HB.out hx378_1; replace p378 := eq_true p378; replace q378 := eq_true q378))
   (try simp only [Act.put, List.setIfInBounds_toArray, List.set_cons_zero, List.set_cons_succ])
   go_cut [] (fun wc => ∃ (kq : Nat) (x378000_4 : Int) (x378001_4 : ByteArray) (x378002_4 : ByteArray) (x378003_4 : Bool) (x378004_4 : ByteArray) (x378005_4 : ByteArray) (x378006_4 : Bool) (x378007_4 : Bool) (x378008_4 : Int) (x378009_4 : Int) (x378010_4 : Int) (x378011_4 : Int) (x378012_4 : Int), Aside0 (r13_one.j4 kq a1 ((rd_T53 l0 a1).f0) (⟨#[58, 59, 44, 123, 125, 40, 41, 91, 93]⟩ : ByteArray) = some (r1, r2, r3, r4, r5, r6, r7, r8, r9, r10, r11, r12, r13, r14)) ∧ Aside0 (kq ≤ k) ∧ Aside0 (wc.heap[gb377]? = some (.cells #[.int .i64 x378000_4, .string x378001_4, .string x378002_4, .bool x378003_4, .string x378004_4, .string x378005_4, .bool x378006_4, .bool x378007_4, .int .i64 x378008_4, .int .i64 x378009_4, .int .i64 x378010_4, .int .i64 x378011_4, .int .i64 x378012_4] 35 (0, 0))) ∧ Aside0 (Below w.heap.size w wc))
   case first =>
    have H := HC5.out
    clear HC5
    replace H := Option.bind_eq_some_iff.mp H
    obtain ⟨t379, A70, H⟩ := H
    replace H : (if t379 = true then (none) else ((r13_blank.f ((rd_T53 l0 a1).f0)).bind fun t381 => (if t381 = true then (r13_one.l1 k l0 ((rd_T53 l0 a1).f0) a1) else (if ((rd_T53 l0 a1).f0) = 34 then (none) else (r13_one.j2 k l0 a1 ((rd_T53 l0 a1).f0) (⟨#[58, 59, 44, 123, 125, 40, 41, 91, 93]⟩ : ByteArray) (((rd_T53 l0 a1).f0) == 39)))))) = some (r1, r2, r3, r4, r5, r6, r7, r8, r9, r10, r11, r12, r13, r14) := H
    have A7 := Aside0.mk A70
    clear A70
    by_cases c8 : t379 = true
    ·subst c8
     have H1 : (none) = some (r1, r2, r3, r4, r5, r6, r7, r8, r9, r10, r11, r12, r13, r14) := by rw [if_pos rfl] at H; exact H
     clear H
     have H := H1
     clear H1
     exact absurd H (by simp)
    ·replace c8 := Bool.eq_false_iff.mpr c8
     subst c8
     have H1 : ((r13_blank.f ((rd_T53 l0 a1).f0)).bind fun t381 => (if t381 = true then (r13_one.l1 k l0 ((rd_T53 l0 a1).f0) a1) else (if ((rd_T53 l0 a1).f0) = 34 then (none) else (r13_one.j2 k l0 a1 ((rd_T53 l0 a1).f0) (⟨#[58, 59, 44, 123, 125, 40, 41, 91, 93]⟩ : ByteArray) (((rd_T53 l0 a1).f0) == 39))))) = some (r1, r2, r3, r4, r5, r6, r7, r8, r9, r10, r11, r12, r13, r14) := by rw [if_neg (show ¬ (false = true) by decide)] at H; exact H
     clear H
     have H := H1
     clear H1
     replace H := Option.bind_eq_some_iff.mp H
     obtain ⟨t381, A90, H⟩ := H
     replace H : (if t381 = true then (r13_one.l1 k l0 ((rd_T53 l0 a1).f0) a1) else (if ((rd_T53 l0 a1).f0) = 34 then (none) else (r13_one.j2 k l0 a1 ((rd_T53 l0 a1).f0) (⟨#[58, 59, 44, 123, 125, 40, 41, 91, 93]⟩ : ByteArray) (((rd_T53 l0 a1).f0) == 39)))) = some (r1, r2, r3, r4, r5, r6, r7, r8, r9, r10, r11, r12, r13, r14) := H
     have A9 := Aside0.mk A90
     clear A90
     by_cases c10 : t381 = true
     ·subst c10
      have H1 : (r13_one.l1 k l0 ((rd_T53 l0 a1).f0) a1) = some (r1, r2, r3, r4, r5, r6, r7, r8, r9, r10, r11, r12, r13, r14) := by rw [if_pos rfl] at H; exact H
      clear H
      have H := H1
      clear H1
      have H' := Aside0.mk H
      clear H
      go_wp2_with (first | ((with_reducible refine gate_callee (f := 43) rfl ?_); refine goesL_ (some 25) rfl rfl Tryz.func43 (by kernel_rfl) rfl #[.slice (some ad378) l0.length c0, .int .i64 a1, .string (⟨#[47, 42]⟩ : ByteArray)] rfl agP ?_; (with_reducible refine (r13_follows.calls k _ _ l0 a1 (⟨#[47, 42]⟩ : ByteArray) false _ ?side1 ?side2 A7.out).mono ?_); (case side1 => repeat (first | exact (Kd.C_below HR0.out HB.out) | (with_reducible refine Kd.C_alloc ?_ _) | (with_reducible refine Kd.C_drewN ?_ _) | (with_reducible refine Kd.C_drew ?_))); (case side2 => exact HC0.out); rintro e w' ⟨rfl, ⟨nd, rfl⟩⟩; refine ⟨_, rfl, ?_⟩) | ((with_reducible refine gate_callee (f := 45) rfl ?_); refine goesL_ (some 58) rfl rfl Tryz.func45 (by kernel_rfl) rfl #[.int .i64 ((rd_T53 l0 a1).f0)] rfl agP ?_; (with_reducible refine (r13_blank.calls ((rd_T53 l0 a1).f0) true _ A9.out).mono ?_); rintro e w' ⟨rfl, ⟨nd, rfl⟩⟩; refine ⟨_, rfl, ?_⟩))
      go_loopg [10] k (fun kq v10 w' => ∃ (x10_1 : Int), v10 = .int .i64 x10_1 ∧ Aside0 (r13_one.l1 kq l0 ((rd_T53 l0 a1).f0) x10_1 = some (r1, r2, r3, r4, r5, r6, r7, r8, r9, r10, r11, r12, r13, r14)) ∧ Aside0 (kq ≤ k) ∧ Aside0 (w'.heap[gb377]? = some (.cells #[.int .i64 0, .string (⟨#[]⟩ : ByteArray), .string (⟨#[]⟩ : ByteArray), .bool false, .string (⟨#[]⟩ : ByteArray), .string (⟨#[]⟩ : ByteArray), .bool false, .bool false, .int .i64 0, .int .i64 0, .int .i64 0, .int .i64 0, .int .i64 0] 35 (0, 0))) ∧ Aside0 (Below w.heap.size w w'))
      case atStart => exact ⟨(a1), vqP, H', ⟨Nat.le_refl _⟩, ⟨bkP BK377.out⟩, ⟨hbP1 HB.out GE377.out⟩⟩
      case round =>
       clear H'
       obtain ⟨x10_1, rfl, HA, HK1, BK377, HB⟩ := hrel
       cases gk with
       | zero => exact absurd HA.out (by simp [r13_one.l1])
       | succ k1 =>
        have H := HA.out
        clear HA
        simp only [r13_one.l1] at H
        replace H := Option.bind_eq_some_iff.mp H
        obtain ⟨t382, A110, H⟩ := H
        replace H : ((r13_blank.f t382).bind fun t383 => (if t383 = true then (r13_one.l1 k1 l0 ((rd_T53 l0 a1).f0) (wrap64 (x10_1 + 1))) else (if ((rd_T53 l0 a1).f0) = 10 then (none) else (some (13, (⟨#[32]⟩ : ByteArray), (⟨#[]⟩ : ByteArray), false, (⟨#[]⟩ : ByteArray), (⟨#[]⟩ : ByteArray), false, false, 0, 0, 0, 0, 0, x10_1))))) = some (r1, r2, r3, r4, r5, r6, r7, r8, r9, r10, r11, r12, r13, r14) := H
        have A11 := Aside0.mk A110
        clear A110
        replace H := Option.bind_eq_some_iff.mp H
        obtain ⟨t383, A120, H⟩ := H
        replace H : (if t383 = true then (r13_one.l1 k1 l0 ((rd_T53 l0 a1).f0) (wrap64 (x10_1 + 1))) else (if ((rd_T53 l0 a1).f0) = 10 then (none) else (some (13, (⟨#[32]⟩ : ByteArray), (⟨#[]⟩ : ByteArray), false, (⟨#[]⟩ : ByteArray), (⟨#[]⟩ : ByteArray), false, false, 0, 0, 0, 0, 0, x10_1)))) = some (r1, r2, r3, r4, r5, r6, r7, r8, r9, r10, r11, r12, r13, r14) := H
        have A12 := Aside0.mk A120
        clear A120
        by_cases c13 : t383 = true
        ·subst c13
         have H1 : (r13_one.l1 k1 l0 ((rd_T53 l0 a1).f0) (wrap64 (x10_1 + 1))) = some (r1, r2, r3, r4, r5, r6, r7, r8, r9, r10, r11, r12, r13, r14) := by rw [if_pos rfl] at H; exact H
         clear H
         have H := H1
         clear H1
         have H' := Aside0.mk H
         clear H
         go_wp2_with (first | ((with_reducible refine gate_callee (f := 46) rfl ?_); refine goesL_ (some 62) rfl rfl Tryz.func46 (by kernel_rfl) rfl #[.slice (some ad378) l0.length c0, .int .i64 x10_1] rfl agP ?_; (with_reducible refine (r13_at.calls _ _ l0 x10_1 t382 _ ?side1 ?side2 A11.out).mono ?_); (case side1 => repeat (first | exact (Kd.C_below HR0.out HB.out) | (with_reducible refine Kd.C_alloc ?_ _) | (with_reducible refine Kd.C_drewN ?_ _) | (with_reducible refine Kd.C_drew ?_))); (case side2 => exact HC0.out); rintro e w' ⟨rfl, ⟨nd, rfl⟩⟩; refine ⟨_, rfl, ?_⟩) | ((with_reducible refine gate_callee (f := 45) rfl ?_); refine goesL_ (some 63) rfl rfl Tryz.func45 (by kernel_rfl) rfl #[.int .i64 t382] rfl agP ?_; (with_reducible refine (r13_blank.calls t382 true _ A12.out).mono ?_); rintro e w' ⟨rfl, ⟨nd, rfl⟩⟩; refine ⟨_, rfl, ?_⟩))
         go_roundg k1
         case measure => have := HK1.out; omega
         case rel => exact ⟨(wrap64 (x10_1 + 1)), vqP, H', ⟨by have := HK1.out; omega⟩, ⟨bkP BK377.out⟩, ⟨hbP1 HB.out GE377.out⟩⟩
        ·replace c13 := Bool.eq_false_iff.mpr c13
         subst c13
         have H1 : (if ((rd_T53 l0 a1).f0) = 10 then (none) else (some (13, (⟨#[32]⟩ : ByteArray), (⟨#[]⟩ : ByteArray), false, (⟨#[]⟩ : ByteArray), (⟨#[]⟩ : ByteArray), false, false, 0, 0, 0, 0, 0, x10_1))) = some (r1, r2, r3, r4, r5, r6, r7, r8, r9, r10, r11, r12, r13, r14) := by rw [if_neg (show ¬ (false = true) by decide)] at H; exact H
         clear H
         have H := H1
         clear H1
         by_cases c14 : ((rd_T53 l0 a1).f0) = 10
         ·rw [if_pos c14] at H
          exact absurd H (by simp)
         ·rw [if_neg c14] at H
          have c14b0 : (((rd_T53 l0 a1).f0) == 10) = false := beq_eq_false_iff_ne.mpr c14
          have c14b1 : (((rd_T53 l0 a1).f0) != 10) = true := bne_iff_ne.mpr c14
          (first | rw [c14b0] | (simp only [i64_w, i32_w]; rw [c14b0]) | skip)
          simp only [Option.some.injEq, Prod.mk.injEq] at H
          obtain ⟨rfl, rfl, rfl, rfl, rfl, rfl, rfl, rfl, rfl, rfl, rfl, rfl, rfl, rfl⟩ := H
          go_wp2_with (first | ((with_reducible refine gate_callee (f := 46) rfl ?_); refine goesL_ (some 62) rfl rfl Tryz.func46 (by kernel_rfl) rfl #[.slice (some ad378) l0.length c0, .int .i64 x10_1] rfl agP ?_; (with_reducible refine (r13_at.calls _ _ l0 x10_1 t382 _ ?side1 ?side2 A11.out).mono ?_); (case side1 => repeat (first | exact (Kd.C_below HR0.out HB.out) | (with_reducible refine Kd.C_alloc ?_ _) | (with_reducible refine Kd.C_drewN ?_ _) | (with_reducible refine Kd.C_drew ?_))); (case side2 => exact HC0.out); rintro e w' ⟨rfl, ⟨nd, rfl⟩⟩; refine ⟨_, rfl, ?_⟩; (try (rw [drewN_self wr]; generalize hq_ : World.drewN wr _ = wr; have n0_ : Aside0 (wr.heap[gb377]? = some (.cells #[.int .i64 0, .string (⟨#[]⟩ : ByteArray), .string (⟨#[]⟩ : ByteArray), .bool false, .string (⟨#[]⟩ : ByteArray), .string (⟨#[]⟩ : ByteArray), .bool false, .bool false, .int .i64 0, .int .i64 0, .int .i64 0, .int .i64 0, .int .i64 0] 35 (0, 0))) := ⟨by rw [← hq_]; exact (bkP BK377.out)⟩; have n1_ : Aside0 (Below w.heap.size w wr) := ⟨by rw [← hq_]; exact (hbP1 HB.out GE377.out)⟩; clear BK377 HB hq_; have BK377 := n0_; have HB := n1_; clear n0_ n1_))) | ((with_reducible refine gate_callee (f := 45) rfl ?_); refine goesL_ (some 63) rfl rfl Tryz.func45 (by kernel_rfl) rfl #[.int .i64 t382] rfl agP ?_; (with_reducible refine (r13_blank.calls t382 false _ A12.out).mono ?_); rintro e w' ⟨rfl, ⟨nd, rfl⟩⟩; refine ⟨_, rfl, ?_⟩; (try (rw [drewN_self wr]; generalize hq_ : World.drewN wr _ = wr; have n0_ : Aside0 (wr.heap[gb377]? = some (.cells #[.int .i64 0, .string (⟨#[]⟩ : ByteArray), .string (⟨#[]⟩ : ByteArray), .bool false, .string (⟨#[]⟩ : ByteArray), .string (⟨#[]⟩ : ByteArray), .bool false, .bool false, .int .i64 0, .int .i64 0, .int .i64 0, .int .i64 0, .int .i64 0] 35 (0, 0))) := ⟨by rw [← hq_]; exact (bkP BK377.out)⟩; have n1_ : Aside0 (Below w.heap.size w wr) := ⟨by rw [← hq_]; exact (hbP1 HB.out GE377.out)⟩; clear BK377 HB hq_; have BK377 := n0_; have HB := n1_; clear n0_ n1_))) | ((with_reducible refine gate_dst (N := 11) rfl ?_); refine box_event ?hg (N := 11) ?hd (cs := #[.int .i64 0, .string (⟨#[]⟩ : ByteArray), .string (⟨#[]⟩ : ByteArray), .bool false, .string (⟨#[]⟩ : ByteArray), .string (⟨#[]⟩ : ByteArray), .bool false, .bool false, .int .i64 0, .int .i64 0, .int .i64 0, .int .i64 0, .int .i64 0]) (t := 35) ?hr ?_; (case hd => rfl); (case hg => rfl); (case hr => first | (go_simp; done) | (go_simp; rfl)); intro gb384 hg w15 hbox hb; have n0_ := Aside0.mk (blk_below (g := gb377) (o := .cells #[.int .i64 0, .string (⟨#[]⟩ : ByteArray), .string (⟨#[]⟩ : ByteArray), .bool false, .string (⟨#[]⟩ : ByteArray), .string (⟨#[]⟩ : ByteArray), .bool false, .bool false, .int .i64 0, .int .i64 0, .int .i64 0, .int .i64 0, .int .i64 0] 35 (0, 0)) (bkP BK377.out) hb); have n1_ := Aside0.mk (below_step (hbP1 HB.out GE377.out) hb); have n2_ := Aside0.mk (hbox); have n3_ := Aside0.mk ((by rw [hg]; exact (below_size (hbP1 HB.out GE377.out)) : w.heap.size ≤ gb384)); have n4_ := Aside0.mk ((by rw [hg]; exact (below_size (hbP1 HB.out GE377.out)) : w.heap.size ≤ gb384)); have n5_ := Aside0.mk ((by rw [hg]; exact Nat.ne_of_lt (blk_lt (g := gb377) (o := .cells #[.int .i64 0, .string (⟨#[]⟩ : ByteArray), .string (⟨#[]⟩ : ByteArray), .bool false, .string (⟨#[]⟩ : ByteArray), .string (⟨#[]⟩ : ByteArray), .bool false, .bool false, .int .i64 0, .int .i64 0, .int .i64 0, .int .i64 0, .int .i64 0] 35 (0, 0)) (bkP BK377.out)) : gb377 ≠ gb384)); have n6_ := Aside0.mk ((by rw [hg]; exact Nat.ne_of_gt (blk_lt (g := gb377) (o := .cells #[.int .i64 0, .string (⟨#[]⟩ : ByteArray), .string (⟨#[]⟩ : ByteArray), .bool false, .string (⟨#[]⟩ : ByteArray), .string (⟨#[]⟩ : ByteArray), .bool false, .bool false, .int .i64 0, .int .i64 0, .int .i64 0, .int .i64 0, .int .i64 0] 35 (0, 0)) (bkP BK377.out)) : gb384 ≠ gb377)); clear BK377; clear HB; have BK377 := n0_; have HB := n1_; have BK384 := n2_; have GW384 := n3_; have GE384 := n4_; have NB377_384 := n5_; have NB384_377 := n6_; clear n0_ n1_ n2_ n3_ n4_ n5_ n6_; clear hb hbox hg; have hnb16 := NB384_377.out; have hnc16 := NB377_384.out; have hcz17_0 : w15.cell? ⟨gb384, 0, none⟩ = some (.int .i64 0) := (blk_cell BK384.out 0).trans rfl; have hcz17_1 : w15.cell? ⟨gb384, 1, none⟩ = some (.string (⟨#[]⟩ : ByteArray)) := (blk_cell BK384.out 1).trans rfl; have hcz17_2 : w15.cell? ⟨gb384, 2, none⟩ = some (.string (⟨#[]⟩ : ByteArray)) := (blk_cell BK384.out 2).trans rfl; have hcz17_3 : w15.cell? ⟨gb384, 3, none⟩ = some (.bool false) := (blk_cell BK384.out 3).trans rfl; have hcz17_4 : w15.cell? ⟨gb384, 4, none⟩ = some (.string (⟨#[]⟩ : ByteArray)) := (blk_cell BK384.out 4).trans rfl; have hcz17_5 : w15.cell? ⟨gb384, 5, none⟩ = some (.string (⟨#[]⟩ : ByteArray)) := (blk_cell BK384.out 5).trans rfl; have hcz17_6 : w15.cell? ⟨gb384, 6, none⟩ = some (.bool false) := (blk_cell BK384.out 6).trans rfl; have hcz17_7 : w15.cell? ⟨gb384, 7, none⟩ = some (.bool false) := (blk_cell BK384.out 7).trans rfl; have hcz17_8 : w15.cell? ⟨gb384, 8, none⟩ = some (.int .i64 0) := (blk_cell BK384.out 8).trans rfl; have hcz17_9 : w15.cell? ⟨gb384, 9, none⟩ = some (.int .i64 0) := (blk_cell BK384.out 9).trans rfl; have hcz17_10 : w15.cell? ⟨gb384, 10, none⟩ = some (.int .i64 0) := (blk_cell BK384.out 10).trans rfl; have hcz17_11 : w15.cell? ⟨gb384, 11, none⟩ = some (.int .i64 0) := (blk_cell BK384.out 11).trans rfl; have hcz17_12 : w15.cell? ⟨gb384, 12, none⟩ = some (.int .i64 0) := (blk_cell BK384.out 12).trans rfl; have hfz17_0 := blk_frozen BK384.out 0; have hfz17_1 := blk_frozen BK384.out 1; have hfz17_2 := blk_frozen BK384.out 2; have hfz17_3 := blk_frozen BK384.out 3; have hfz17_4 := blk_frozen BK384.out 4; have hfz17_5 := blk_frozen BK384.out 5; have hfz17_6 := blk_frozen BK384.out 6; have hfz17_7 := blk_frozen BK384.out 7; have hfz17_8 := blk_frozen BK384.out 8; have hfz17_9 := blk_frozen BK384.out 9; have hfz17_10 := blk_frozen BK384.out 10; have hfz17_11 := blk_frozen BK384.out 11; have hfz17_12 := blk_frozen BK384.out 12) | ((with_reducible refine gate_store (t := 35) (p := 11) rfl ?_); refine store_all13 (t := 35) (p := 11) (v := ?vo_w18) gb384 (.int .i64 13) (.string (⟨#[32]⟩ : ByteArray)) (.string (⟨#[]⟩ : ByteArray)) (.bool false) (.string (⟨#[]⟩ : ByteArray)) (.string (⟨#[]⟩ : ByteArray)) (.bool false) (.bool false) (.int .i64 0) (.int .i64 0) (.int .i64 0) (.int .i64 0) (.int .i64 0) ?hg ?ho ?hn (bkP BK384.out) ?hx ?hy ?hi ?h1 ?_; (case ho => rfl); (case hg => rfl); (case hn => rfl); (case hx => first | rfl | (go_simp; done) | (go_simp; rfl)); (case hy => first | with_reducible rfl | (go_simp; done) | (go_simp; rfl)); (case hi => kernel_rfl); (case h1 => rfl); intro w18 hw; have n0_ : Aside0 (w18.heap[gb377]? = some (.cells #[.int .i64 0, .string (⟨#[]⟩ : ByteArray), .string (⟨#[]⟩ : ByteArray), .bool false, .string (⟨#[]⟩ : ByteArray), .string (⟨#[]⟩ : ByteArray), .bool false, .bool false, .int .i64 0, .int .i64 0, .int .i64 0, .int .i64 0, .int .i64 0] 35 (0, 0))) := ⟨(by rw [hw]; exact (farall13 (bkP BK377.out) (NB377_384.out) (.int .i64 13) (.string (⟨#[32]⟩ : ByteArray)) (.string (⟨#[]⟩ : ByteArray)) (.bool false) (.string (⟨#[]⟩ : ByteArray)) (.string (⟨#[]⟩ : ByteArray)) (.bool false) (.bool false) (.int .i64 0) (.int .i64 0) (.int .i64 0) (.int .i64 0) (.int .i64 0)))⟩; have n1_ : Aside0 (w18.heap[gb384]? = some (.cells #[.int .i64 13, .string (⟨#[32]⟩ : ByteArray), .string (⟨#[]⟩ : ByteArray), .bool false, .string (⟨#[]⟩ : ByteArray), .string (⟨#[]⟩ : ByteArray), .bool false, .bool false, .int .i64 0, .int .i64 0, .int .i64 0, .int .i64 0, .int .i64 0] 35 (0, 0))) := ⟨(by rw [hw]; exact (putall13 (bkP BK384.out) (.int .i64 13) (.string (⟨#[32]⟩ : ByteArray)) (.string (⟨#[]⟩ : ByteArray)) (.bool false) (.string (⟨#[]⟩ : ByteArray)) (.string (⟨#[]⟩ : ByteArray)) (.bool false) (.bool false) (.int .i64 0) (.int .i64 0) (.int .i64 0) (.int .i64 0) (.int .i64 0)))⟩; have n2_ : Aside0 (Below w.heap.size w w18) := ⟨(by rw [hw]; exact (belall13 (hbP0 HB.out) GE384.out (.int .i64 13) (.string (⟨#[32]⟩ : ByteArray)) (.string (⟨#[]⟩ : ByteArray)) (.bool false) (.string (⟨#[]⟩ : ByteArray)) (.string (⟨#[]⟩ : ByteArray)) (.bool false) (.bool false) (.int .i64 0) (.int .i64 0) (.int .i64 0) (.int .i64 0) (.int .i64 0)))⟩; clear hw; clear BK377; clear BK384; clear HB; have BK377 := n0_; have BK384 := n1_; have HB := n2_; clear n0_ n1_ n2_; have hcz19_0 : w18.cell? ⟨gb384, 0, none⟩ = some (.int .i64 13) := (blk_cell BK384.out 0).trans rfl; have hcz19_1 : w18.cell? ⟨gb384, 1, none⟩ = some (.string (⟨#[32]⟩ : ByteArray)) := (blk_cell BK384.out 1).trans rfl; have hcz19_2 : w18.cell? ⟨gb384, 2, none⟩ = some (.string (⟨#[]⟩ : ByteArray)) := (blk_cell BK384.out 2).trans rfl; have hcz19_3 : w18.cell? ⟨gb384, 3, none⟩ = some (.bool false) := (blk_cell BK384.out 3).trans rfl; have hcz19_4 : w18.cell? ⟨gb384, 4, none⟩ = some (.string (⟨#[]⟩ : ByteArray)) := (blk_cell BK384.out 4).trans rfl; have hcz19_5 : w18.cell? ⟨gb384, 5, none⟩ = some (.string (⟨#[]⟩ : ByteArray)) := (blk_cell BK384.out 5).trans rfl; have hcz19_6 : w18.cell? ⟨gb384, 6, none⟩ = some (.bool false) := (blk_cell BK384.out 6).trans rfl; have hcz19_7 : w18.cell? ⟨gb384, 7, none⟩ = some (.bool false) := (blk_cell BK384.out 7).trans rfl; have hcz19_8 : w18.cell? ⟨gb384, 8, none⟩ = some (.int .i64 0) := (blk_cell BK384.out 8).trans rfl; have hcz19_9 : w18.cell? ⟨gb384, 9, none⟩ = some (.int .i64 0) := (blk_cell BK384.out 9).trans rfl; have hcz19_10 : w18.cell? ⟨gb384, 10, none⟩ = some (.int .i64 0) := (blk_cell BK384.out 10).trans rfl; have hcz19_11 : w18.cell? ⟨gb384, 11, none⟩ = some (.int .i64 0) := (blk_cell BK384.out 11).trans rfl; have hcz19_12 : w18.cell? ⟨gb384, 12, none⟩ = some (.int .i64 0) := (blk_cell BK384.out 12).trans rfl; have hfz19_0 := blk_frozen BK384.out 0; have hfz19_1 := blk_frozen BK384.out 1; have hfz19_2 := blk_frozen BK384.out 2; have hfz19_3 := blk_frozen BK384.out 3; have hfz19_4 := blk_frozen BK384.out 4; have hfz19_5 := blk_frozen BK384.out 5; have hfz19_6 := blk_frozen BK384.out 6; have hfz19_7 := blk_frozen BK384.out 7; have hfz19_8 := blk_frozen BK384.out 8; have hfz19_9 := blk_frozen BK384.out 9; have hfz19_10 := blk_frozen BK384.out 10; have hfz19_11 := blk_frozen BK384.out 11; have hfz19_12 := blk_frozen BK384.out 12; have hcz20_0 : w18.cell? ⟨gb377, 0, none⟩ = some (.int .i64 0) := (blk_cell BK377.out 0).trans rfl; have hcz20_1 : w18.cell? ⟨gb377, 1, none⟩ = some (.string (⟨#[]⟩ : ByteArray)) := (blk_cell BK377.out 1).trans rfl; have hcz20_2 : w18.cell? ⟨gb377, 2, none⟩ = some (.string (⟨#[]⟩ : ByteArray)) := (blk_cell BK377.out 2).trans rfl; have hcz20_3 : w18.cell? ⟨gb377, 3, none⟩ = some (.bool false) := (blk_cell BK377.out 3).trans rfl; have hcz20_4 : w18.cell? ⟨gb377, 4, none⟩ = some (.string (⟨#[]⟩ : ByteArray)) := (blk_cell BK377.out 4).trans rfl; have hcz20_5 : w18.cell? ⟨gb377, 5, none⟩ = some (.string (⟨#[]⟩ : ByteArray)) := (blk_cell BK377.out 5).trans rfl; have hcz20_6 : w18.cell? ⟨gb377, 6, none⟩ = some (.bool false) := (blk_cell BK377.out 6).trans rfl; have hcz20_7 : w18.cell? ⟨gb377, 7, none⟩ = some (.bool false) := (blk_cell BK377.out 7).trans rfl; have hcz20_8 : w18.cell? ⟨gb377, 8, none⟩ = some (.int .i64 0) := (blk_cell BK377.out 8).trans rfl; have hcz20_9 : w18.cell? ⟨gb377, 9, none⟩ = some (.int .i64 0) := (blk_cell BK377.out 9).trans rfl; have hcz20_10 : w18.cell? ⟨gb377, 10, none⟩ = some (.int .i64 0) := (blk_cell BK377.out 10).trans rfl; have hcz20_11 : w18.cell? ⟨gb377, 11, none⟩ = some (.int .i64 0) := (blk_cell BK377.out 11).trans rfl; have hcz20_12 : w18.cell? ⟨gb377, 12, none⟩ = some (.int .i64 0) := (blk_cell BK377.out 12).trans rfl; have hfz20_0 := blk_frozen BK377.out 0; have hfz20_1 := blk_frozen BK377.out 1; have hfz20_2 := blk_frozen BK377.out 2; have hfz20_3 := blk_frozen BK377.out 3; have hfz20_4 := blk_frozen BK377.out 4; have hfz20_5 := blk_frozen BK377.out 5; have hfz20_6 := blk_frozen BK377.out 6; have hfz20_7 := blk_frozen BK377.out 7; have hfz20_8 := blk_frozen BK377.out 8; have hfz20_9 := blk_frozen BK377.out 9; have hfz20_10 := blk_frozen BK377.out 10; have hfz20_11 := blk_frozen BK377.out 11; have hfz20_12 := blk_frozen BK377.out 12) | ((with_reducible refine gate_store (t := 35) (p := 4) rfl ?_); refine store_all13 (t := 35) (p := 4) (v := ?vo_w21) gb377 (.int .i64 13) (.string (⟨#[32]⟩ : ByteArray)) (.string (⟨#[]⟩ : ByteArray)) (.bool false) (.string (⟨#[]⟩ : ByteArray)) (.string (⟨#[]⟩ : ByteArray)) (.bool false) (.bool false) (.int .i64 0) (.int .i64 0) (.int .i64 0) (.int .i64 0) (.int .i64 0) ?hg ?ho ?hn (bkP BK377.out) ?hx ?hy ?hi ?h1 ?_; (case ho => rfl); (case hg => rfl); (case hn => rfl); (case hx => first | rfl | (go_simp; done) | (go_simp; rfl)); (case hy => first | with_reducible rfl | (go_simp; done) | (go_simp; rfl)); (case hi => kernel_rfl); (case h1 => rfl); intro w21 hw; have n0_ : Aside0 (w21.heap[gb377]? = some (.cells #[.int .i64 13, .string (⟨#[32]⟩ : ByteArray), .string (⟨#[]⟩ : ByteArray), .bool false, .string (⟨#[]⟩ : ByteArray), .string (⟨#[]⟩ : ByteArray), .bool false, .bool false, .int .i64 0, .int .i64 0, .int .i64 0, .int .i64 0, .int .i64 0] 35 (0, 0))) := ⟨(by rw [hw]; exact (putall13 (bkP BK377.out) (.int .i64 13) (.string (⟨#[32]⟩ : ByteArray)) (.string (⟨#[]⟩ : ByteArray)) (.bool false) (.string (⟨#[]⟩ : ByteArray)) (.string (⟨#[]⟩ : ByteArray)) (.bool false) (.bool false) (.int .i64 0) (.int .i64 0) (.int .i64 0) (.int .i64 0) (.int .i64 0)))⟩; have n1_ : Aside0 (w21.heap[gb384]? = some (.cells #[.int .i64 13, .string (⟨#[32]⟩ : ByteArray), .string (⟨#[]⟩ : ByteArray), .bool false, .string (⟨#[]⟩ : ByteArray), .string (⟨#[]⟩ : ByteArray), .bool false, .bool false, .int .i64 0, .int .i64 0, .int .i64 0, .int .i64 0, .int .i64 0] 35 (0, 0))) := ⟨(by rw [hw]; exact (farall13 (bkP BK384.out) (NB384_377.out) (.int .i64 13) (.string (⟨#[32]⟩ : ByteArray)) (.string (⟨#[]⟩ : ByteArray)) (.bool false) (.string (⟨#[]⟩ : ByteArray)) (.string (⟨#[]⟩ : ByteArray)) (.bool false) (.bool false) (.int .i64 0) (.int .i64 0) (.int .i64 0) (.int .i64 0) (.int .i64 0)))⟩; have n2_ : Aside0 (Below w.heap.size w w21) := ⟨(by rw [hw]; exact (belall13 (hbP0 HB.out) GE377.out (.int .i64 13) (.string (⟨#[32]⟩ : ByteArray)) (.string (⟨#[]⟩ : ByteArray)) (.bool false) (.string (⟨#[]⟩ : ByteArray)) (.string (⟨#[]⟩ : ByteArray)) (.bool false) (.bool false) (.int .i64 0) (.int .i64 0) (.int .i64 0) (.int .i64 0) (.int .i64 0)))⟩; clear hw; clear BK377; clear BK384; clear HB; have BK377 := n0_; have BK384 := n1_; have HB := n2_; clear n0_ n1_ n2_))
          refine bodyPost_ret (results_ct rfl _ _ gb377 35 #[.int .i64 13, .string (⟨#[32]⟩ : ByteArray), .string (⟨#[]⟩ : ByteArray), .bool false, .string (⟨#[]⟩ : ByteArray), .string (⟨#[]⟩ : ByteArray), .bool false, .bool false, .int .i64 0, .int .i64 0, .int .i64 0, .int .i64 0, .int .i64 0] (0, 0) _ rfl (bkP BK377.out) Tryz.underlying35 rfl (by kernel_rfl)) rfl ?_
          exact ⟨by first | rfl | (simp [errW_none, errW_some] <;> rfl) | (simp [*, errW_none, errW_some] <;> rfl), hbP2 HB.out GE377.out GE384.out⟩
     ·replace c10 := Bool.eq_false_iff.mpr c10
      subst c10
      have H1 : (if ((rd_T53 l0 a1).f0) = 34 then (none) else (r13_one.j2 k l0 a1 ((rd_T53 l0 a1).f0) (⟨#[58, 59, 44, 123, 125, 40, 41, 91, 93]⟩ : ByteArray) (((rd_T53 l0 a1).f0) == 39))) = some (r1, r2, r3, r4, r5, r6, r7, r8, r9, r10, r11, r12, r13, r14) := by rw [if_neg (show ¬ (false = true) by decide)] at H; exact H
      clear H
      have H := H1
      clear H1
      have HC22 := Aside0.mk H
      clear H
      go_upto_region 20 with (first | ((with_reducible refine gate_callee (f := 43) rfl ?_); refine goesL_ (some 25) rfl rfl Tryz.func43 (by kernel_rfl) rfl #[.slice (some ad378) l0.length c0, .int .i64 a1, .string (⟨#[47, 42]⟩ : ByteArray)] rfl agP ?_; (with_reducible refine (r13_follows.calls k _ _ l0 a1 (⟨#[47, 42]⟩ : ByteArray) false _ ?side1 ?side2 A7.out).mono ?_); (case side1 => repeat (first | exact (Kd.C_below HR0.out HB.out) | (with_reducible refine Kd.C_alloc ?_ _) | (with_reducible refine Kd.C_drewN ?_ _) | (with_reducible refine Kd.C_drew ?_))); (case side2 => exact HC0.out); rintro e w' ⟨rfl, ⟨nd, rfl⟩⟩; refine ⟨_, rfl, ?_⟩) | ((with_reducible refine gate_callee (f := 45) rfl ?_); refine goesL_ (some 58) rfl rfl Tryz.func45 (by kernel_rfl) rfl #[.int .i64 ((rd_T53 l0 a1).f0)] rfl agP ?_; (with_reducible refine (r13_blank.calls ((rd_T53 l0 a1).f0) false _ A9.out).mono ?_); rintro e w' ⟨rfl, ⟨nd, rfl⟩⟩; refine ⟨_, rfl, ?_⟩))
      (try simp only [Act.put, List.setIfInBounds_toArray, List.set_cons_zero, List.set_cons_succ])
      go_cut [72] (fun v72 wc => ∃ (kq : Nat) (x72_21 : Bool), v72 = .bool x72_21 ∧ Aside0 (r13_one.j2 kq l0 a1 ((rd_T53 l0 a1).f0) (⟨#[58, 59, 44, 123, 125, 40, 41, 91, 93]⟩ : ByteArray) x72_21 = some (r1, r2, r3, r4, r5, r6, r7, r8, r9, r10, r11, r12, r13, r14)) ∧ Aside0 (kq ≤ k) ∧ Aside0 (wc.heap[gb377]? = some (.cells #[.int .i64 0, .string (⟨#[]⟩ : ByteArray), .string (⟨#[]⟩ : ByteArray), .bool false, .string (⟨#[]⟩ : ByteArray), .string (⟨#[]⟩ : ByteArray), .bool false, .bool false, .int .i64 0, .int .i64 0, .int .i64 0, .int .i64 0, .int .i64 0] 35 (0, 0))) ∧ Aside0 (Below w.heap.size w wc))
      case first =>
       have H := HC22.out
       clear HC22
       by_cases c23 : ((rd_T53 l0 a1).f0) = 34
       ·rw [if_pos c23] at H
        exact absurd H (by simp)
       ·rw [if_neg c23] at H
        have c23b0 : (((rd_T53 l0 a1).f0) == 34) = false := beq_eq_false_iff_ne.mpr c23
        have c23b1 : (((rd_T53 l0 a1).f0) != 34) = true := bne_iff_ne.mpr c23
        (first | rw [c23b0] | (simp only [i64_w, i32_w]; rw [c23b0]) | skip)
        have H' := Aside0.mk H
        clear H
        go_wp2
        go_meet
        case rel => exact ⟨_, ((((rd_T53 l0 a1).f0) == 39)), vqP, H', ⟨by first | omega | exact Nat.le_refl _⟩, ⟨bkP BK377.out⟩, ⟨hbP1 HB.out GE377.out⟩⟩
      case rest =>
       clear HC22
       obtain ⟨kq, x72_21, rfl, HA, HJ21, BK377, HB⟩ := hcut
       cases kq with
       | zero => exact absurd HA.out (by simp [r13_one.j2])
       | succ kj21 =>
        have H := HA.out
        clear HA
        simp only [r13_one.j2] at H
        by_cases c24 : x72_21 = true
        ·subst c24
         have H1 : (none) = some (r1, r2, r3, r4, r5, r6, r7, r8, r9, r10, r11, r12, r13, r14) := by rw [if_pos rfl] at H; exact H
         clear H
         have H := H1
         clear H1
         exact absurd H (by simp)
        ·replace c24 := Bool.eq_false_iff.mpr c24
         subst c24
         have H1 : (if ((rd_T53 l0 a1).f0) = 35 then ((r13_at.f l0 (wrap64 (a1 + 1))).bind fun t385 => ((r13_In.f t385).bind fun t386 => (if t386 = true then (r13_one.j3 kj21 l0 a1 ((rd_T53 l0 a1).f0) (⟨#[58, 59, 44, 123, 125, 40, 41, 91, 93]⟩ : ByteArray) true) else (none)))) else (r13_one.j3 kj21 l0 a1 ((rd_T53 l0 a1).f0) (⟨#[58, 59, 44, 123, 125, 40, 41, 91, 93]⟩ : ByteArray) false)) = some (r1, r2, r3, r4, r5, r6, r7, r8, r9, r10, r11, r12, r13, r14) := by rw [if_neg (show ¬ (false = true) by decide)] at H; exact H
         clear H
         have H := H1
         clear H1
         have HC25 := Aside0.mk H
         clear H
         go_upto_region 22 with (fail)
         go_cut [84] (fun v84 wc => ∃ (kq : Nat) (x84_24 : Bool), v84 = .bool x84_24 ∧ Aside0 (r13_one.j3 kq l0 a1 ((rd_T53 l0 a1).f0) (⟨#[58, 59, 44, 123, 125, 40, 41, 91, 93]⟩ : ByteArray) x84_24 = some (r1, r2, r3, r4, r5, r6, r7, r8, r9, r10, r11, r12, r13, r14)) ∧ Aside0 (kq ≤ kj21) ∧ Aside0 (wc.heap[gb377]? = some (.cells #[.int .i64 0, .string (⟨#[]⟩ : ByteArray), .string (⟨#[]⟩ : ByteArray), .bool false, .string (⟨#[]⟩ : ByteArray), .string (⟨#[]⟩ : ByteArray), .bool false, .bool false, .int .i64 0, .int .i64 0, .int .i64 0, .int .i64 0, .int .i64 0] 35 (0, 0))) ∧ Aside0 (Below w.heap.size w wc))
         case first =>
          have H := HC25.out
          clear HC25
          by_cases c26 : ((rd_T53 l0 a1).f0) = 35
          ·rw [if_pos c26] at H
           have c26b0 : (((rd_T53 l0 a1).f0) == 35) = true := beq_iff_eq.mpr c26
           have c26b1 : (((rd_T53 l0 a1).f0) != 35) = false := bne_eq_false_iff_eq.mpr c26
           clear c26
           (first | rw [c26b0] | (simp only [i64_w, i32_w]; rw [c26b0]) | skip)
           replace H := Option.bind_eq_some_iff.mp H
           obtain ⟨t385, A270, H⟩ := H
           replace H : ((r13_In.f t385).bind fun t386 => (if t386 = true then (r13_one.j3 kj21 l0 a1 ((rd_T53 l0 a1).f0) (⟨#[58, 59, 44, 123, 125, 40, 41, 91, 93]⟩ : ByteArray) true) else (none))) = some (r1, r2, r3, r4, r5, r6, r7, r8, r9, r10, r11, r12, r13, r14) := H
           have A27 := Aside0.mk A270
           clear A270
           replace H := Option.bind_eq_some_iff.mp H
           obtain ⟨t386, A280, H⟩ := H
           replace H : (if t386 = true then (r13_one.j3 kj21 l0 a1 ((rd_T53 l0 a1).f0) (⟨#[58, 59, 44, 123, 125, 40, 41, 91, 93]⟩ : ByteArray) true) else (none)) = some (r1, r2, r3, r4, r5, r6, r7, r8, r9, r10, r11, r12, r13, r14) := H
           have A28 := Aside0.mk A280
           clear A280
           by_cases c29 : t386 = true
           ·subst c29
            have H1 : (r13_one.j3 kj21 l0 a1 ((rd_T53 l0 a1).f0) (⟨#[58, 59, 44, 123, 125, 40, 41, 91, 93]⟩ : ByteArray) true) = some (r1, r2, r3, r4, r5, r6, r7, r8, r9, r10, r11, r12, r13, r14) := by rw [if_pos rfl] at H; exact H
            clear H
            have H := H1
            clear H1
            have H' := Aside0.mk H
            clear H
            go_wp2_with (first | (go_at_call 46; (with_reducible refine (r13_at.calls _ _ l0 (wrap64 (a1 + 1)) t385 _ ?side1 ?side2 A27.out).mono ?_); (case side1 => repeat (first | exact (Kd.C_below HR0.out HB.out) | (with_reducible refine Kd.C_alloc ?_ _) | (with_reducible refine Kd.C_drewN ?_ _) | (with_reducible refine Kd.C_drew ?_))); (case side2 => exact HC0.out); rintro e w' ⟨rfl, ⟨nd, rfl⟩⟩) | (go_at_call 48; (with_reducible refine (r13_In.calls t385 true _ A28.out).mono ?_); rintro e w' ⟨rfl, ⟨nd, rfl⟩⟩))
            go_meet
            case rel => exact ⟨_, (true), vqP, H', ⟨by have := HJ21.out; first | omega | exact Nat.le_refl _⟩, ⟨bkP BK377.out⟩, ⟨hbP1 HB.out GE377.out⟩⟩
           ·replace c29 := Bool.eq_false_iff.mpr c29
            subst c29
            have H1 : (none) = some (r1, r2, r3, r4, r5, r6, r7, r8, r9, r10, r11, r12, r13, r14) := by rw [if_neg (show ¬ (false = true) by decide)] at H; exact H
            clear H
            have H := H1
            clear H1
            exact absurd H (by simp)
          ·rw [if_neg c26] at H
           have c26b0 : (((rd_T53 l0 a1).f0) == 35) = false := beq_eq_false_iff_ne.mpr c26
           have c26b1 : (((rd_T53 l0 a1).f0) != 35) = true := bne_iff_ne.mpr c26
           (first | rw [c26b0] | (simp only [i64_w, i32_w]; rw [c26b0]) | skip)
           have H' := Aside0.mk H
           clear H
           go_wp2
           go_meet
           case rel => exact ⟨_, (false), vqP, H', ⟨by have := HJ21.out; first | omega | exact Nat.le_refl _⟩, ⟨bkP BK377.out⟩, ⟨hbP1 HB.out GE377.out⟩⟩
         case rest =>
          clear HC25
          obtain ⟨kq, x84_24, rfl, HA, HJ24, BK377, HB⟩ := hcut
          cases kq with
          | zero => exact absurd HA.out (by simp [r13_one.j3])
          | succ kj24 =>
           have H := HA.out
           clear HA
           simp only [r13_one.j3] at H
           by_cases c30 : x84_24 = true
           ·subst c30
            have H1 : ((r13_Take.f kj24 l0 (wrap64 (a1 + 1))).bind fun bt388 => ((r13_Begins.f kj24 l0 (wrap64 (a1 + 1))).bind fun t390 => (some (4, bt388.1, (⟨#[]⟩ : ByteArray), false, (⟨#[]⟩ : ByteArray), (⟨#[]⟩ : ByteArray), t390, false, 0, 0, 0, 0, 0, bt388.2)))) = some (r1, r2, r3, r4, r5, r6, r7, r8, r9, r10, r11, r12, r13, r14) := by rw [if_pos rfl] at H; exact H
            clear H
            have H := H1
            clear H1
            replace H := Option.bind_eq_some_iff.mp H
            obtain ⟨⟨t388, t389⟩, A310, H⟩ := H
            replace H : ((r13_Begins.f kj24 l0 (wrap64 (a1 + 1))).bind fun t390 => (some (4, t388, (⟨#[]⟩ : ByteArray), false, (⟨#[]⟩ : ByteArray), (⟨#[]⟩ : ByteArray), t390, false, 0, 0, 0, 0, 0, t389))) = some (r1, r2, r3, r4, r5, r6, r7, r8, r9, r10, r11, r12, r13, r14) := H
            have A31 := Aside0.mk A310
            clear A310
            replace H := Option.bind_eq_some_iff.mp H
            obtain ⟨t390, A320, H⟩ := H
            replace H : (some (4, t388, (⟨#[]⟩ : ByteArray), false, (⟨#[]⟩ : ByteArray), (⟨#[]⟩ : ByteArray), t390, false, 0, 0, 0, 0, 0, t389)) = some (r1, r2, r3, r4, r5, r6, r7, r8, r9, r10, r11, r12, r13, r14) := H
            have A32 := Aside0.mk A320
            clear A320
            simp only [Option.some.injEq, Prod.mk.injEq] at H
            obtain ⟨rfl, rfl, rfl, rfl, rfl, rfl, rfl, rfl, rfl, rfl, rfl, rfl, rfl, rfl⟩ := H
            go_wp2_with (first | ((with_reducible refine gate_callee (f := 50) rfl ?_); refine goesL_ (some 104) rfl rfl Tryz.func50 (by kernel_rfl) rfl #[.slice (some ad378) l0.length c0, .int .i64 (wrap64 (a1 + 1))] rfl agP ?_; (with_reducible refine (r13_Take.calls kj24 _ _ l0 (wrap64 (a1 + 1)) t388 t389 _ ?side1 ?side2 A31.out).mono ?_); (case side1 => repeat (first | exact (Kd.C_below HR0.out HB.out) | (with_reducible refine Kd.C_alloc ?_ _) | (with_reducible refine Kd.C_drewN ?_ _) | (with_reducible refine Kd.C_drew ?_))); (case side2 => exact HC0.out); rintro e w33 ⟨rfl, hb⟩; refine ⟨_, rfl, ?_⟩; have n0_ := Aside0.mk (blk_below (g := gb377) (o := .cells #[.int .i64 0, .string (⟨#[]⟩ : ByteArray), .string (⟨#[]⟩ : ByteArray), .bool false, .string (⟨#[]⟩ : ByteArray), .string (⟨#[]⟩ : ByteArray), .bool false, .bool false, .int .i64 0, .int .i64 0, .int .i64 0, .int .i64 0, .int .i64 0] 35 (0, 0)) (bkP BK377.out) hb); have n1_ := Aside0.mk (below_step (hbP1 HB.out GE377.out) hb); clear BK377; clear HB; have BK377 := n0_; have HB := n1_; clear n0_ n1_; (try clear hb); (try clear hb2); (try clear hk); (try clear hi)) | ((with_reducible refine gate_callee (f := 51) rfl ?_); refine goesL_ (some 111) rfl rfl Tryz.func51 (by kernel_rfl) rfl #[.slice (some ad378) l0.length c0, .int .i64 (wrap64 (a1 + 1))] rfl agP ?_; (with_reducible refine (r13_Begins.calls kj24 _ _ l0 (wrap64 (a1 + 1)) t390 _ ?side1 ?side2 A32.out).mono ?_); (case side1 => repeat (first | exact (Kd.C_below HR0.out HB.out) | (with_reducible refine Kd.C_alloc ?_ _) | (with_reducible refine Kd.C_drewN ?_ _) | (with_reducible refine Kd.C_drew ?_))); (case side2 => exact HC0.out); rintro e w' ⟨rfl, ⟨nd, rfl⟩⟩; refine ⟨_, rfl, ?_⟩; (try (rw [drewN_self w33]; generalize hq_ : World.drewN w33 _ = w33; have n0_ : Aside0 (w33.heap[gb377]? = some (.cells #[.int .i64 0, .string (⟨#[]⟩ : ByteArray), .string (⟨#[]⟩ : ByteArray), .bool false, .string (⟨#[]⟩ : ByteArray), .string (⟨#[]⟩ : ByteArray), .bool false, .bool false, .int .i64 0, .int .i64 0, .int .i64 0, .int .i64 0, .int .i64 0] 35 (0, 0))) := ⟨by rw [← hq_]; exact (bkP BK377.out)⟩; have n1_ : Aside0 (Below w.heap.size w w33) := ⟨by rw [← hq_]; exact (hbP1 HB.out GE377.out)⟩; clear BK377 HB hq_; have BK377 := n0_; have HB := n1_; clear n0_ n1_)); have hcz34_0 : w33.cell? ⟨gb377, 0, none⟩ = some (.int .i64 0) := (blk_cell BK377.out 0).trans rfl; have hcz34_1 : w33.cell? ⟨gb377, 1, none⟩ = some (.string (⟨#[]⟩ : ByteArray)) := (blk_cell BK377.out 1).trans rfl; have hcz34_2 : w33.cell? ⟨gb377, 2, none⟩ = some (.string (⟨#[]⟩ : ByteArray)) := (blk_cell BK377.out 2).trans rfl; have hcz34_3 : w33.cell? ⟨gb377, 3, none⟩ = some (.bool false) := (blk_cell BK377.out 3).trans rfl; have hcz34_4 : w33.cell? ⟨gb377, 4, none⟩ = some (.string (⟨#[]⟩ : ByteArray)) := (blk_cell BK377.out 4).trans rfl; have hcz34_5 : w33.cell? ⟨gb377, 5, none⟩ = some (.string (⟨#[]⟩ : ByteArray)) := (blk_cell BK377.out 5).trans rfl; have hcz34_6 : w33.cell? ⟨gb377, 6, none⟩ = some (.bool false) := (blk_cell BK377.out 6).trans rfl; have hcz34_7 : w33.cell? ⟨gb377, 7, none⟩ = some (.bool false) := (blk_cell BK377.out 7).trans rfl; have hcz34_8 : w33.cell? ⟨gb377, 8, none⟩ = some (.int .i64 0) := (blk_cell BK377.out 8).trans rfl; have hcz34_9 : w33.cell? ⟨gb377, 9, none⟩ = some (.int .i64 0) := (blk_cell BK377.out 9).trans rfl; have hcz34_10 : w33.cell? ⟨gb377, 10, none⟩ = some (.int .i64 0) := (blk_cell BK377.out 10).trans rfl; have hcz34_11 : w33.cell? ⟨gb377, 11, none⟩ = some (.int .i64 0) := (blk_cell BK377.out 11).trans rfl; have hcz34_12 : w33.cell? ⟨gb377, 12, none⟩ = some (.int .i64 0) := (blk_cell BK377.out 12).trans rfl; have hfz34_0 := blk_frozen BK377.out 0; have hfz34_1 := blk_frozen BK377.out 1; have hfz34_2 := blk_frozen BK377.out 2; have hfz34_3 := blk_frozen BK377.out 3; have hfz34_4 := blk_frozen BK377.out 4; have hfz34_5 := blk_frozen BK377.out 5; have hfz34_6 := blk_frozen BK377.out 6; have hfz34_7 := blk_frozen BK377.out 7; have hfz34_8 := blk_frozen BK377.out 8; have hfz34_9 := blk_frozen BK377.out 9; have hfz34_10 := blk_frozen BK377.out 10; have hfz34_11 := blk_frozen BK377.out 11; have hfz34_12 := blk_frozen BK377.out 12) | ((with_reducible refine gate_store (t := 35) (p := 4) rfl ?_); refine store_all13 (t := 35) (p := 4) (v := ?vo_w35) gb377 (.int .i64 4) (.string t388) (.string (⟨#[]⟩ : ByteArray)) (.bool false) (.string (⟨#[]⟩ : ByteArray)) (.string (⟨#[]⟩ : ByteArray)) (.bool t390) (.bool false) (.int .i64 0) (.int .i64 0) (.int .i64 0) (.int .i64 0) (.int .i64 0) ?hg ?ho ?hn (bkP BK377.out) ?hx ?hy ?hi ?h1 ?_; (case ho => rfl); (case hg => rfl); (case hn => rfl); (case hx => first | rfl | (go_simp; done) | (go_simp; rfl)); (case hy => first | with_reducible rfl | (go_simp; done) | (go_simp; rfl)); (case hi => kernel_rfl); (case h1 => rfl); intro w35 hw; have n0_ : Aside0 (w35.heap[gb377]? = some (.cells #[.int .i64 4, .string t388, .string (⟨#[]⟩ : ByteArray), .bool false, .string (⟨#[]⟩ : ByteArray), .string (⟨#[]⟩ : ByteArray), .bool t390, .bool false, .int .i64 0, .int .i64 0, .int .i64 0, .int .i64 0, .int .i64 0] 35 (0, 0))) := ⟨(by rw [hw]; exact (putall13 (bkP BK377.out) (.int .i64 4) (.string t388) (.string (⟨#[]⟩ : ByteArray)) (.bool false) (.string (⟨#[]⟩ : ByteArray)) (.string (⟨#[]⟩ : ByteArray)) (.bool t390) (.bool false) (.int .i64 0) (.int .i64 0) (.int .i64 0) (.int .i64 0) (.int .i64 0)))⟩; have n1_ : Aside0 (Below w.heap.size w w35) := ⟨(by rw [hw]; exact (belall13 (hbP0 HB.out) GE377.out (.int .i64 4) (.string t388) (.string (⟨#[]⟩ : ByteArray)) (.bool false) (.string (⟨#[]⟩ : ByteArray)) (.string (⟨#[]⟩ : ByteArray)) (.bool t390) (.bool false) (.int .i64 0) (.int .i64 0) (.int .i64 0) (.int .i64 0) (.int .i64 0)))⟩; clear hw; clear BK377; clear HB; have BK377 := n0_; have HB := n1_; clear n0_ n1_))
            refine bodyPost_ret (results_ct rfl _ _ gb377 35 #[.int .i64 4, .string t388, .string (⟨#[]⟩ : ByteArray), .bool false, .string (⟨#[]⟩ : ByteArray), .string (⟨#[]⟩ : ByteArray), .bool t390, .bool false, .int .i64 0, .int .i64 0, .int .i64 0, .int .i64 0, .int .i64 0] (0, 0) _ rfl (bkP BK377.out) Tryz.underlying35 rfl (by kernel_rfl)) rfl ?_
            exact ⟨by first | rfl | (simp [errW_none, errW_some] <;> rfl) | (simp [*, errW_none, errW_some] <;> rfl), hbP1 HB.out GE377.out⟩
           ·replace c30 := Bool.eq_false_iff.mpr c30
            subst c30
            have H1 : ((r13_numeral.f kj24 l0 a1).bind fun t391 => (if t391 = true then (none) else ((r13_follows.f kj24 l0 a1 (⟨#[45, 45, 62]⟩ : ByteArray)).bind fun t392 => (if t392 = true then (none) else ((r13_follows.f kj24 l0 a1 (⟨#[60, 33, 45, 45]⟩ : ByteArray)).bind fun t393 => (if t393 = true then (none) else ((r13_Begins.f kj24 l0 a1).bind fun t394 => (if t394 = true then ((r13_named.f kj24 l0 a1).bind fun bt395 => (some (bt395.1, bt395.2.1, bt395.2.2.1, bt395.2.2.2.1, bt395.2.2.2.2.1, bt395.2.2.2.2.2.1, bt395.2.2.2.2.2.2.1, bt395.2.2.2.2.2.2.2.1, bt395.2.2.2.2.2.2.2.2.1, bt395.2.2.2.2.2.2.2.2.2.1, bt395.2.2.2.2.2.2.2.2.2.2.1, bt395.2.2.2.2.2.2.2.2.2.2.2.1, bt395.2.2.2.2.2.2.2.2.2.2.2.2.1, bt395.2.2.2.2.2.2.2.2.2.2.2.2.2))) else (if ((rd_T53 l0 a1).f0) = 64 then (none) else (r13_one.j4 kj24 a1 ((rd_T53 l0 a1).f0) (⟨#[58, 59, 44, 123, 125, 40, 41, 91, 93]⟩ : ByteArray))))))))))) = some (r1, r2, r3, r4, r5, r6, r7, r8, r9, r10, r11, r12, r13, r14) := by rw [if_neg (show ¬ (false = true) by decide)] at H; exact H
            clear H
            have H := H1
            clear H1
            replace H := Option.bind_eq_some_iff.mp H
            obtain ⟨t391, A360, H⟩ := H
            replace H : (if t391 = true then (none) else ((r13_follows.f kj24 l0 a1 (⟨#[45, 45, 62]⟩ : ByteArray)).bind fun t392 => (if t392 = true then (none) else ((r13_follows.f kj24 l0 a1 (⟨#[60, 33, 45, 45]⟩ : ByteArray)).bind fun t393 => (if t393 = true then (none) else ((r13_Begins.f kj24 l0 a1).bind fun t394 => (if t394 = true then ((r13_named.f kj24 l0 a1).bind fun bt395 => (some (bt395.1, bt395.2.1, bt395.2.2.1, bt395.2.2.2.1, bt395.2.2.2.2.1, bt395.2.2.2.2.2.1, bt395.2.2.2.2.2.2.1, bt395.2.2.2.2.2.2.2.1, bt395.2.2.2.2.2.2.2.2.1, bt395.2.2.2.2.2.2.2.2.2.1, bt395.2.2.2.2.2.2.2.2.2.2.1, bt395.2.2.2.2.2.2.2.2.2.2.2.1, bt395.2.2.2.2.2.2.2.2.2.2.2.2.1, bt395.2.2.2.2.2.2.2.2.2.2.2.2.2))) else (if ((rd_T53 l0 a1).f0) = 64 then (none) else (r13_one.j4 kj24 a1 ((rd_T53 l0 a1).f0) (⟨#[58, 59, 44, 123, 125, 40, 41, 91, 93]⟩ : ByteArray)))))))))) = some (r1, r2, r3, r4, r5, r6, r7, r8, r9, r10, r11, r12, r13, r14) := H
            have A36 := Aside0.mk A360
            clear A360
            by_cases c37 : t391 = true
            ·subst c37
             have H1 : (none) = some (r1, r2, r3, r4, r5, r6, r7, r8, r9, r10, r11, r12, r13, r14) := by rw [if_pos rfl] at H; exact H
             clear H
             have H := H1
             clear H1
             exact absurd H (by simp)
            ·replace c37 := Bool.eq_false_iff.mpr c37
             subst c37
             have H1 : ((r13_follows.f kj24 l0 a1 (⟨#[45, 45, 62]⟩ : ByteArray)).bind fun t392 => (if t392 = true then (none) else ((r13_follows.f kj24 l0 a1 (⟨#[60, 33, 45, 45]⟩ : ByteArray)).bind fun t393 => (if t393 = true then (none) else ((r13_Begins.f kj24 l0 a1).bind fun t394 => (if t394 = true then ((r13_named.f kj24 l0 a1).bind fun bt395 => (some (bt395.1, bt395.2.1, bt395.2.2.1, bt395.2.2.2.1, bt395.2.2.2.2.1, bt395.2.2.2.2.2.1, bt395.2.2.2.2.2.2.1, bt395.2.2.2.2.2.2.2.1, bt395.2.2.2.2.2.2.2.2.1, bt395.2.2.2.2.2.2.2.2.2.1, bt395.2.2.2.2.2.2.2.2.2.2.1, bt395.2.2.2.2.2.2.2.2.2.2.2.1, bt395.2.2.2.2.2.2.2.2.2.2.2.2.1, bt395.2.2.2.2.2.2.2.2.2.2.2.2.2))) else (if ((rd_T53 l0 a1).f0) = 64 then (none) else (r13_one.j4 kj24 a1 ((rd_T53 l0 a1).f0) (⟨#[58, 59, 44, 123, 125, 40, 41, 91, 93]⟩ : ByteArray))))))))) = some (r1, r2, r3, r4, r5, r6, r7, r8, r9, r10, r11, r12, r13, r14) := by rw [if_neg (show ¬ (false = true) by decide)] at H; exact H
             clear H
             have H := H1
             clear H1
             replace H := Option.bind_eq_some_iff.mp H
             obtain ⟨t392, A380, H⟩ := H
             replace H : (if t392 = true then (none) else ((r13_follows.f kj24 l0 a1 (⟨#[60, 33, 45, 45]⟩ : ByteArray)).bind fun t393 => (if t393 = true then (none) else ((r13_Begins.f kj24 l0 a1).bind fun t394 => (if t394 = true then ((r13_named.f kj24 l0 a1).bind fun bt395 => (some (bt395.1, bt395.2.1, bt395.2.2.1, bt395.2.2.2.1, bt395.2.2.2.2.1, bt395.2.2.2.2.2.1, bt395.2.2.2.2.2.2.1, bt395.2.2.2.2.2.2.2.1, bt395.2.2.2.2.2.2.2.2.1, bt395.2.2.2.2.2.2.2.2.2.1, bt395.2.2.2.2.2.2.2.2.2.2.1, bt395.2.2.2.2.2.2.2.2.2.2.2.1, bt395.2.2.2.2.2.2.2.2.2.2.2.2.1, bt395.2.2.2.2.2.2.2.2.2.2.2.2.2))) else (if ((rd_T53 l0 a1).f0) = 64 then (none) else (r13_one.j4 kj24 a1 ((rd_T53 l0 a1).f0) (⟨#[58, 59, 44, 123, 125, 40, 41, 91, 93]⟩ : ByteArray)))))))) = some (r1, r2, r3, r4, r5, r6, r7, r8, r9, r10, r11, r12, r13, r14) := H
             have A38 := Aside0.mk A380
             clear A380
             by_cases c39 : t392 = true
             ·subst c39
              have H1 : (none) = some (r1, r2, r3, r4, r5, r6, r7, r8, r9, r10, r11, r12, r13, r14) := by rw [if_pos rfl] at H; exact H
              clear H
              have H := H1
              clear H1
              exact absurd H (by simp)
             ·replace c39 := Bool.eq_false_iff.mpr c39
              subst c39
              have H1 : ((r13_follows.f kj24 l0 a1 (⟨#[60, 33, 45, 45]⟩ : ByteArray)).bind fun t393 => (if t393 = true then (none) else ((r13_Begins.f kj24 l0 a1).bind fun t394 => (if t394 = true then ((r13_named.f kj24 l0 a1).bind fun bt395 => (some (bt395.1, bt395.2.1, bt395.2.2.1, bt395.2.2.2.1, bt395.2.2.2.2.1, bt395.2.2.2.2.2.1, bt395.2.2.2.2.2.2.1, bt395.2.2.2.2.2.2.2.1, bt395.2.2.2.2.2.2.2.2.1, bt395.2.2.2.2.2.2.2.2.2.1, bt395.2.2.2.2.2.2.2.2.2.2.1, bt395.2.2.2.2.2.2.2.2.2.2.2.1, bt395.2.2.2.2.2.2.2.2.2.2.2.2.1, bt395.2.2.2.2.2.2.2.2.2.2.2.2.2))) else (if ((rd_T53 l0 a1).f0) = 64 then (none) else (r13_one.j4 kj24 a1 ((rd_T53 l0 a1).f0) (⟨#[58, 59, 44, 123, 125, 40, 41, 91, 93]⟩ : ByteArray))))))) = some (r1, r2, r3, r4, r5, r6, r7, r8, r9, r10, r11, r12, r13, r14) := by rw [if_neg (show ¬ (false = true) by decide)] at H; exact H
              clear H
              have H := H1
              clear H1
              replace H := Option.bind_eq_some_iff.mp H
              obtain ⟨t393, A400, H⟩ := H
              replace H : (if t393 = true then (none) else ((r13_Begins.f kj24 l0 a1).bind fun t394 => (if t394 = true then ((r13_named.f kj24 l0 a1).bind fun bt395 => (some (bt395.1, bt395.2.1, bt395.2.2.1, bt395.2.2.2.1, bt395.2.2.2.2.1, bt395.2.2.2.2.2.1, bt395.2.2.2.2.2.2.1, bt395.2.2.2.2.2.2.2.1, bt395.2.2.2.2.2.2.2.2.1, bt395.2.2.2.2.2.2.2.2.2.1, bt395.2.2.2.2.2.2.2.2.2.2.1, bt395.2.2.2.2.2.2.2.2.2.2.2.1, bt395.2.2.2.2.2.2.2.2.2.2.2.2.1, bt395.2.2.2.2.2.2.2.2.2.2.2.2.2))) else (if ((rd_T53 l0 a1).f0) = 64 then (none) else (r13_one.j4 kj24 a1 ((rd_T53 l0 a1).f0) (⟨#[58, 59, 44, 123, 125, 40, 41, 91, 93]⟩ : ByteArray)))))) = some (r1, r2, r3, r4, r5, r6, r7, r8, r9, r10, r11, r12, r13, r14) := H
              have A40 := Aside0.mk A400
              clear A400
              by_cases c41 : t393 = true
              ·subst c41
               have H1 : (none) = some (r1, r2, r3, r4, r5, r6, r7, r8, r9, r10, r11, r12, r13, r14) := by rw [if_pos rfl] at H; exact H
               clear H
               have H := H1
               clear H1
               exact absurd H (by simp)
              ·replace c41 := Bool.eq_false_iff.mpr c41
               subst c41
               have H1 : ((r13_Begins.f kj24 l0 a1).bind fun t394 => (if t394 = true then ((r13_named.f kj24 l0 a1).bind fun bt395 => (some (bt395.1, bt395.2.1, bt395.2.2.1, bt395.2.2.2.1, bt395.2.2.2.2.1, bt395.2.2.2.2.2.1, bt395.2.2.2.2.2.2.1, bt395.2.2.2.2.2.2.2.1, bt395.2.2.2.2.2.2.2.2.1, bt395.2.2.2.2.2.2.2.2.2.1, bt395.2.2.2.2.2.2.2.2.2.2.1, bt395.2.2.2.2.2.2.2.2.2.2.2.1, bt395.2.2.2.2.2.2.2.2.2.2.2.2.1, bt395.2.2.2.2.2.2.2.2.2.2.2.2.2))) else (if ((rd_T53 l0 a1).f0) = 64 then (none) else (r13_one.j4 kj24 a1 ((rd_T53 l0 a1).f0) (⟨#[58, 59, 44, 123, 125, 40, 41, 91, 93]⟩ : ByteArray))))) = some (r1, r2, r3, r4, r5, r6, r7, r8, r9, r10, r11, r12, r13, r14) := by rw [if_neg (show ¬ (false = true) by decide)] at H; exact H
               clear H
               have H := H1
               clear H1
               replace H := Option.bind_eq_some_iff.mp H
               obtain ⟨t394, A420, H⟩ := H
               replace H : (if t394 = true then ((r13_named.f kj24 l0 a1).bind fun bt395 => (some (bt395.1, bt395.2.1, bt395.2.2.1, bt395.2.2.2.1, bt395.2.2.2.2.1, bt395.2.2.2.2.2.1, bt395.2.2.2.2.2.2.1, bt395.2.2.2.2.2.2.2.1, bt395.2.2.2.2.2.2.2.2.1, bt395.2.2.2.2.2.2.2.2.2.1, bt395.2.2.2.2.2.2.2.2.2.2.1, bt395.2.2.2.2.2.2.2.2.2.2.2.1, bt395.2.2.2.2.2.2.2.2.2.2.2.2.1, bt395.2.2.2.2.2.2.2.2.2.2.2.2.2))) else (if ((rd_T53 l0 a1).f0) = 64 then (none) else (r13_one.j4 kj24 a1 ((rd_T53 l0 a1).f0) (⟨#[58, 59, 44, 123, 125, 40, 41, 91, 93]⟩ : ByteArray)))) = some (r1, r2, r3, r4, r5, r6, r7, r8, r9, r10, r11, r12, r13, r14) := H
               have A42 := Aside0.mk A420
               clear A420
               by_cases c43 : t394 = true
               ·subst c43
                have H1 : ((r13_named.f kj24 l0 a1).bind fun bt395 => (some (bt395.1, bt395.2.1, bt395.2.2.1, bt395.2.2.2.1, bt395.2.2.2.2.1, bt395.2.2.2.2.2.1, bt395.2.2.2.2.2.2.1, bt395.2.2.2.2.2.2.2.1, bt395.2.2.2.2.2.2.2.2.1, bt395.2.2.2.2.2.2.2.2.2.1, bt395.2.2.2.2.2.2.2.2.2.2.1, bt395.2.2.2.2.2.2.2.2.2.2.2.1, bt395.2.2.2.2.2.2.2.2.2.2.2.2.1, bt395.2.2.2.2.2.2.2.2.2.2.2.2.2))) = some (r1, r2, r3, r4, r5, r6, r7, r8, r9, r10, r11, r12, r13, r14) := by rw [if_pos rfl] at H; exact H
                clear H
                have H := H1
                clear H1
                replace H := Option.bind_eq_some_iff.mp H
                obtain ⟨⟨t395, t396, t397, t398, t399, t400, t401, t402, t403, t404, t405, t406, t407, t408⟩, A440, H⟩ := H
                replace H : (some (t395, t396, t397, t398, t399, t400, t401, t402, t403, t404, t405, t406, t407, t408)) = some (r1, r2, r3, r4, r5, r6, r7, r8, r9, r10, r11, r12, r13, r14) := H
                have A44 := Aside0.mk A440
                clear A440
                simp only [Option.some.injEq, Prod.mk.injEq] at H
                obtain ⟨rfl, rfl, rfl, rfl, rfl, rfl, rfl, rfl, rfl, rfl, rfl, rfl, rfl, rfl⟩ := H
                go_wp2_with (first | ((with_reducible refine gate_callee (f := 52) rfl ?_); refine goesL_ (some 117) rfl rfl Tryz.func52 (by kernel_rfl) rfl #[.slice (some ad378) l0.length c0, .int .i64 a1] rfl agP ?_; (with_reducible refine (r13_numeral.calls kj24 _ _ l0 a1 false _ ?side1 ?side2 A36.out).mono ?_); (case side1 => repeat (first | exact (Kd.C_below HR0.out HB.out) | (with_reducible refine Kd.C_alloc ?_ _) | (with_reducible refine Kd.C_drewN ?_ _) | (with_reducible refine Kd.C_drew ?_))); (case side2 => exact HC0.out); rintro e w' ⟨rfl, ⟨nd, rfl⟩⟩; refine ⟨_, rfl, ?_⟩; (try (rw [drewN_self wc]; generalize hq_ : World.drewN wc _ = wc; have n0_ : Aside0 (wc.heap[gb377]? = some (.cells #[.int .i64 0, .string (⟨#[]⟩ : ByteArray), .string (⟨#[]⟩ : ByteArray), .bool false, .string (⟨#[]⟩ : ByteArray), .string (⟨#[]⟩ : ByteArray), .bool false, .bool false, .int .i64 0, .int .i64 0, .int .i64 0, .int .i64 0, .int .i64 0] 35 (0, 0))) := ⟨by rw [← hq_]; exact (bkP BK377.out)⟩; have n1_ : Aside0 (Below w.heap.size w wc) := ⟨by rw [← hq_]; exact (hbP1 HB.out GE377.out)⟩; clear BK377 HB hq_; have BK377 := n0_; have HB := n1_; clear n0_ n1_))) | ((with_reducible refine gate_callee (f := 43) rfl ?_); refine goesL_ (some 126) rfl rfl Tryz.func43 (by kernel_rfl) rfl #[.slice (some ad378) l0.length c0, .int .i64 a1, .string (⟨#[45, 45, 62]⟩ : ByteArray)] rfl agP ?_; (with_reducible refine (r13_follows.calls kj24 _ _ l0 a1 (⟨#[45, 45, 62]⟩ : ByteArray) false _ ?side1 ?side2 A38.out).mono ?_); (case side1 => repeat (first | exact (Kd.C_below HR0.out HB.out) | (with_reducible refine Kd.C_alloc ?_ _) | (with_reducible refine Kd.C_drewN ?_ _) | (with_reducible refine Kd.C_drew ?_))); (case side2 => exact HC0.out); rintro e w' ⟨rfl, ⟨nd, rfl⟩⟩; refine ⟨_, rfl, ?_⟩; (try (rw [drewN_self wc]; generalize hq_ : World.drewN wc _ = wc; have n0_ : Aside0 (wc.heap[gb377]? = some (.cells #[.int .i64 0, .string (⟨#[]⟩ : ByteArray), .string (⟨#[]⟩ : ByteArray), .bool false, .string (⟨#[]⟩ : ByteArray), .string (⟨#[]⟩ : ByteArray), .bool false, .bool false, .int .i64 0, .int .i64 0, .int .i64 0, .int .i64 0, .int .i64 0] 35 (0, 0))) := ⟨by rw [← hq_]; exact (bkP BK377.out)⟩; have n1_ : Aside0 (Below w.heap.size w wc) := ⟨by rw [← hq_]; exact (hbP1 HB.out GE377.out)⟩; clear BK377 HB hq_; have BK377 := n0_; have HB := n1_; clear n0_ n1_))) | ((with_reducible refine gate_callee (f := 43) rfl ?_); refine goesL_ (some 133) rfl rfl Tryz.func43 (by kernel_rfl) rfl #[.slice (some ad378) l0.length c0, .int .i64 a1, .string (⟨#[60, 33, 45, 45]⟩ : ByteArray)] rfl agP ?_; (with_reducible refine (r13_follows.calls kj24 _ _ l0 a1 (⟨#[60, 33, 45, 45]⟩ : ByteArray) false _ ?side1 ?side2 A40.out).mono ?_); (case side1 => repeat (first | exact (Kd.C_below HR0.out HB.out) | (with_reducible refine Kd.C_alloc ?_ _) | (with_reducible refine Kd.C_drewN ?_ _) | (with_reducible refine Kd.C_drew ?_))); (case side2 => exact HC0.out); rintro e w' ⟨rfl, ⟨nd, rfl⟩⟩; refine ⟨_, rfl, ?_⟩; (try (rw [drewN_self wc]; generalize hq_ : World.drewN wc _ = wc; have n0_ : Aside0 (wc.heap[gb377]? = some (.cells #[.int .i64 0, .string (⟨#[]⟩ : ByteArray), .string (⟨#[]⟩ : ByteArray), .bool false, .string (⟨#[]⟩ : ByteArray), .string (⟨#[]⟩ : ByteArray), .bool false, .bool false, .int .i64 0, .int .i64 0, .int .i64 0, .int .i64 0, .int .i64 0] 35 (0, 0))) := ⟨by rw [← hq_]; exact (bkP BK377.out)⟩; have n1_ : Aside0 (Below w.heap.size w wc) := ⟨by rw [← hq_]; exact (hbP1 HB.out GE377.out)⟩; clear BK377 HB hq_; have BK377 := n0_; have HB := n1_; clear n0_ n1_))) | ((with_reducible refine gate_callee (f := 51) rfl ?_); refine goesL_ (some 140) rfl rfl Tryz.func51 (by kernel_rfl) rfl #[.slice (some ad378) l0.length c0, .int .i64 a1] rfl agP ?_; (with_reducible refine (r13_Begins.calls kj24 _ _ l0 a1 true _ ?side1 ?side2 A42.out).mono ?_); (case side1 => repeat (first | exact (Kd.C_below HR0.out HB.out) | (with_reducible refine Kd.C_alloc ?_ _) | (with_reducible refine Kd.C_drewN ?_ _) | (with_reducible refine Kd.C_drew ?_))); (case side2 => exact HC0.out); rintro e w' ⟨rfl, ⟨nd, rfl⟩⟩; refine ⟨_, rfl, ?_⟩; (try (rw [drewN_self wc]; generalize hq_ : World.drewN wc _ = wc; have n0_ : Aside0 (wc.heap[gb377]? = some (.cells #[.int .i64 0, .string (⟨#[]⟩ : ByteArray), .string (⟨#[]⟩ : ByteArray), .bool false, .string (⟨#[]⟩ : ByteArray), .string (⟨#[]⟩ : ByteArray), .bool false, .bool false, .int .i64 0, .int .i64 0, .int .i64 0, .int .i64 0, .int .i64 0] 35 (0, 0))) := ⟨by rw [← hq_]; exact (bkP BK377.out)⟩; have n1_ : Aside0 (Below w.heap.size w wc) := ⟨by rw [← hq_]; exact (hbP1 HB.out GE377.out)⟩; clear BK377 HB hq_; have BK377 := n0_; have HB := n1_; clear n0_ n1_))) | ((with_reducible refine gate_callee (f := 54) rfl ?_); refine goesL_ (some 143) rfl rfl Tryz.func54 (by kernel_rfl) rfl #[.slice (some ad378) l0.length c0, .int .i64 a1] rfl agP ?_; (with_reducible refine (r13_named.calls kj24 _ _ l0 a1 t395 t396 t397 t398 t399 t400 t401 t402 t403 t404 t405 t406 t407 t408 _ ?side1 ?side2 A44.out).mono ?_); (case side1 => repeat (first | exact (Kd.C_below HR0.out HB.out) | (with_reducible refine Kd.C_alloc ?_ _) | (with_reducible refine Kd.C_drewN ?_ _) | (with_reducible refine Kd.C_drew ?_))); (case side2 => exact HC0.out); rintro e w45 ⟨rfl, hb⟩; refine ⟨_, rfl, ?_⟩; have n0_ := Aside0.mk (blk_below (g := gb377) (o := .cells #[.int .i64 0, .string (⟨#[]⟩ : ByteArray), .string (⟨#[]⟩ : ByteArray), .bool false, .string (⟨#[]⟩ : ByteArray), .string (⟨#[]⟩ : ByteArray), .bool false, .bool false, .int .i64 0, .int .i64 0, .int .i64 0, .int .i64 0, .int .i64 0] 35 (0, 0)) (bkP BK377.out) hb); have n1_ := Aside0.mk (below_step (hbP1 HB.out GE377.out) hb); clear BK377; clear HB; have BK377 := n0_; have HB := n1_; clear n0_ n1_; (try clear hb); (try clear hb2); (try clear hk); (try clear hi); have hcz46_0 : w45.cell? ⟨gb377, 0, none⟩ = some (.int .i64 0) := (blk_cell BK377.out 0).trans rfl; have hcz46_1 : w45.cell? ⟨gb377, 1, none⟩ = some (.string (⟨#[]⟩ : ByteArray)) := (blk_cell BK377.out 1).trans rfl; have hcz46_2 : w45.cell? ⟨gb377, 2, none⟩ = some (.string (⟨#[]⟩ : ByteArray)) := (blk_cell BK377.out 2).trans rfl; have hcz46_3 : w45.cell? ⟨gb377, 3, none⟩ = some (.bool false) := (blk_cell BK377.out 3).trans rfl; have hcz46_4 : w45.cell? ⟨gb377, 4, none⟩ = some (.string (⟨#[]⟩ : ByteArray)) := (blk_cell BK377.out 4).trans rfl; have hcz46_5 : w45.cell? ⟨gb377, 5, none⟩ = some (.string (⟨#[]⟩ : ByteArray)) := (blk_cell BK377.out 5).trans rfl; have hcz46_6 : w45.cell? ⟨gb377, 6, none⟩ = some (.bool false) := (blk_cell BK377.out 6).trans rfl; have hcz46_7 : w45.cell? ⟨gb377, 7, none⟩ = some (.bool false) := (blk_cell BK377.out 7).trans rfl; have hcz46_8 : w45.cell? ⟨gb377, 8, none⟩ = some (.int .i64 0) := (blk_cell BK377.out 8).trans rfl; have hcz46_9 : w45.cell? ⟨gb377, 9, none⟩ = some (.int .i64 0) := (blk_cell BK377.out 9).trans rfl; have hcz46_10 : w45.cell? ⟨gb377, 10, none⟩ = some (.int .i64 0) := (blk_cell BK377.out 10).trans rfl; have hcz46_11 : w45.cell? ⟨gb377, 11, none⟩ = some (.int .i64 0) := (blk_cell BK377.out 11).trans rfl; have hcz46_12 : w45.cell? ⟨gb377, 12, none⟩ = some (.int .i64 0) := (blk_cell BK377.out 12).trans rfl; have hfz46_0 := blk_frozen BK377.out 0; have hfz46_1 := blk_frozen BK377.out 1; have hfz46_2 := blk_frozen BK377.out 2; have hfz46_3 := blk_frozen BK377.out 3; have hfz46_4 := blk_frozen BK377.out 4; have hfz46_5 := blk_frozen BK377.out 5; have hfz46_6 := blk_frozen BK377.out 6; have hfz46_7 := blk_frozen BK377.out 7; have hfz46_8 := blk_frozen BK377.out 8; have hfz46_9 := blk_frozen BK377.out 9; have hfz46_10 := blk_frozen BK377.out 10; have hfz46_11 := blk_frozen BK377.out 11; have hfz46_12 := blk_frozen BK377.out 12) | ((with_reducible refine gate_store (t := 35) (p := 4) rfl ?_); refine store_all13 (t := 35) (p := 4) (v := ?vo_w47) gb377 (.int .i64 t395) (.string t396) (.string t397) (.bool t398) (.string t399) (.string t400) (.bool t401) (.bool t402) (.int .i64 t403) (.int .i64 t404) (.int .i64 t405) (.int .i64 t406) (.int .i64 t407) ?hg ?ho ?hn (bkP BK377.out) ?hx ?hy ?hi ?h1 ?_; (case ho => rfl); (case hg => rfl); (case hn => rfl); (case hx => first | rfl | (go_simp; done) | (go_simp; rfl)); (case hy => first | with_reducible rfl | (go_simp; done) | (go_simp; rfl)); (case hi => kernel_rfl); (case h1 => rfl); intro w47 hw; have n0_ : Aside0 (w47.heap[gb377]? = some (.cells #[.int .i64 t395, .string t396, .string t397, .bool t398, .string t399, .string t400, .bool t401, .bool t402, .int .i64 t403, .int .i64 t404, .int .i64 t405, .int .i64 t406, .int .i64 t407] 35 (0, 0))) := ⟨(by rw [hw]; exact (putall13 (bkP BK377.out) (.int .i64 t395) (.string t396) (.string t397) (.bool t398) (.string t399) (.string t400) (.bool t401) (.bool t402) (.int .i64 t403) (.int .i64 t404) (.int .i64 t405) (.int .i64 t406) (.int .i64 t407)))⟩; have n1_ : Aside0 (Below w.heap.size w w47) := ⟨(by rw [hw]; exact (belall13 (hbP0 HB.out) GE377.out (.int .i64 t395) (.string t396) (.string t397) (.bool t398) (.string t399) (.string t400) (.bool t401) (.bool t402) (.int .i64 t403) (.int .i64 t404) (.int .i64 t405) (.int .i64 t406) (.int .i64 t407)))⟩; clear hw; clear BK377; clear HB; have BK377 := n0_; have HB := n1_; clear n0_ n1_))
                refine bodyPost_ret (results_ct rfl _ _ gb377 35 #[.int .i64 t395, .string t396, .string t397, .bool t398, .string t399, .string t400, .bool t401, .bool t402, .int .i64 t403, .int .i64 t404, .int .i64 t405, .int .i64 t406, .int .i64 t407] (0, 0) _ rfl (bkP BK377.out) Tryz.underlying35 rfl (by kernel_rfl)) rfl ?_
                exact ⟨by first | rfl | (simp [errW_none, errW_some] <;> rfl) | (simp [*, errW_none, errW_some] <;> rfl), hbP1 HB.out GE377.out⟩
               ·replace c43 := Bool.eq_false_iff.mpr c43
                subst c43
                have H1 : (if ((rd_T53 l0 a1).f0) = 64 then (none) else (r13_one.j4 kj24 a1 ((rd_T53 l0 a1).f0) (⟨#[58, 59, 44, 123, 125, 40, 41, 91, 93]⟩ : ByteArray))) = some (r1, r2, r3, r4, r5, r6, r7, r8, r9, r10, r11, r12, r13, r14) := by rw [if_neg (show ¬ (false = true) by decide)] at H; exact H
                clear H
                have H := H1
                clear H1
                by_cases c48 : ((rd_T53 l0 a1).f0) = 64
                ·rw [if_pos c48] at H
                 exact absurd H (by simp)
                ·rw [if_neg c48] at H
                 have c48b0 : (((rd_T53 l0 a1).f0) == 64) = false := beq_eq_false_iff_ne.mpr c48
                 have c48b1 : (((rd_T53 l0 a1).f0) != 64) = true := bne_iff_ne.mpr c48
                 have H' := Aside0.mk H
                 clear H
                 go_wp2_with (first | ((with_reducible refine gate_callee (f := 52) rfl ?_); refine goesL_ (some 117) rfl rfl Tryz.func52 (by kernel_rfl) rfl #[.slice (some ad378) l0.length c0, .int .i64 a1] rfl agP ?_; (with_reducible refine (r13_numeral.calls kj24 _ _ l0 a1 false _ ?side1 ?side2 A36.out).mono ?_); (case side1 => repeat (first | exact (Kd.C_below HR0.out HB.out) | (with_reducible refine Kd.C_alloc ?_ _) | (with_reducible refine Kd.C_drewN ?_ _) | (with_reducible refine Kd.C_drew ?_))); (case side2 => exact HC0.out); rintro e w' ⟨rfl, ⟨nd, rfl⟩⟩; refine ⟨_, rfl, ?_⟩) | ((with_reducible refine gate_callee (f := 43) rfl ?_); refine goesL_ (some 126) rfl rfl Tryz.func43 (by kernel_rfl) rfl #[.slice (some ad378) l0.length c0, .int .i64 a1, .string (⟨#[45, 45, 62]⟩ : ByteArray)] rfl agP ?_; (with_reducible refine (r13_follows.calls kj24 _ _ l0 a1 (⟨#[45, 45, 62]⟩ : ByteArray) false _ ?side1 ?side2 A38.out).mono ?_); (case side1 => repeat (first | exact (Kd.C_below HR0.out (hbP1 HB.out GE377.out)) | (with_reducible refine Kd.C_alloc ?_ _) | (with_reducible refine Kd.C_drewN ?_ _) | (with_reducible refine Kd.C_drew ?_))); (case side2 => exact HC0.out); rintro e w' ⟨rfl, ⟨nd, rfl⟩⟩; refine ⟨_, rfl, ?_⟩) | ((with_reducible refine gate_callee (f := 43) rfl ?_); refine goesL_ (some 133) rfl rfl Tryz.func43 (by kernel_rfl) rfl #[.slice (some ad378) l0.length c0, .int .i64 a1, .string (⟨#[60, 33, 45, 45]⟩ : ByteArray)] rfl agP ?_; (with_reducible refine (r13_follows.calls kj24 _ _ l0 a1 (⟨#[60, 33, 45, 45]⟩ : ByteArray) false _ ?side1 ?side2 A40.out).mono ?_); (case side1 => repeat (first | exact (Kd.C_below HR0.out (hbP1 HB.out GE377.out)) | (with_reducible refine Kd.C_alloc ?_ _) | (with_reducible refine Kd.C_drewN ?_ _) | (with_reducible refine Kd.C_drew ?_))); (case side2 => exact HC0.out); rintro e w' ⟨rfl, ⟨nd, rfl⟩⟩; refine ⟨_, rfl, ?_⟩) | ((with_reducible refine gate_callee (f := 51) rfl ?_); refine goesL_ (some 140) rfl rfl Tryz.func51 (by kernel_rfl) rfl #[.slice (some ad378) l0.length c0, .int .i64 a1] rfl agP ?_; (with_reducible refine (r13_Begins.calls kj24 _ _ l0 a1 false _ ?side1 ?side2 A42.out).mono ?_); (case side1 => repeat (first | exact (Kd.C_below HR0.out (hbP1 HB.out GE377.out)) | (with_reducible refine Kd.C_alloc ?_ _) | (with_reducible refine Kd.C_drewN ?_ _) | (with_reducible refine Kd.C_drew ?_))); (case side2 => exact HC0.out); rintro e w' ⟨rfl, ⟨nd, rfl⟩⟩; refine ⟨_, rfl, ?_⟩))
                 go_meet
                 case rel => exact ⟨_, (0), ((⟨#[]⟩ : ByteArray)), ((⟨#[]⟩ : ByteArray)), (false), ((⟨#[]⟩ : ByteArray)), ((⟨#[]⟩ : ByteArray)), (false), (false), (0), (0), (0), (0), (0), H', ⟨by have := HJ21.out; have := HJ24.out; first | omega | exact Nat.le_refl _⟩, ⟨bkP BK377.out⟩, ⟨hbP1 HB.out GE377.out⟩⟩
   case rest =>
    clear HC5
    obtain ⟨kq, x378000_4, x378001_4, x378002_4, x378003_4, x378004_4, x378005_4, x378006_4, x378007_4, x378008_4, x378009_4, x378010_4, x378011_4, x378012_4, HA, HJ4, BK377, HB⟩ := hcut
    cases kq with
    | zero => exact absurd HA.out (by simp [r13_one.j4])
    | succ kj4 =>
     have H := HA.out
     clear HA
     simp only [r13_one.j4] at H
     have H' := Aside0.mk H
     clear H
     go_wp2
     go_loopg [16] kj4 (fun kq v16 w' => ∃ (x16_2 : Int) (x378000_2 : Int) (x378001_2 : ByteArray) (x378002_2 : ByteArray) (x378003_2 : Bool) (x378004_2 : ByteArray) (x378005_2 : ByteArray) (x378006_2 : Bool) (x378007_2 : Bool) (x378008_2 : Int) (x378009_2 : Int) (x378010_2 : Int) (x378011_2 : Int) (x378012_2 : Int), v16 = .int .i64 x16_2 ∧ Aside0 (r13_one.l2 kq a1 ((rd_T53 l0 a1).f0) (⟨#[58, 59, 44, 123, 125, 40, 41, 91, 93]⟩ : ByteArray) x16_2 = some (r1, r2, r3, r4, r5, r6, r7, r8, r9, r10, r11, r12, r13, r14)) ∧ Aside0 (kq ≤ kj4) ∧ Aside0 (w'.heap[gb377]? = some (.cells #[.int .i64 x378000_2, .string x378001_2, .string x378002_2, .bool x378003_2, .string x378004_2, .string x378005_2, .bool x378006_2, .bool x378007_2, .int .i64 x378008_2, .int .i64 x378009_2, .int .i64 x378010_2, .int .i64 x378011_2, .int .i64 x378012_2] 35 (0, 0))) ∧ Aside0 (Below w.heap.size w w'))
     case atStart => exact ⟨(0), (x378000_4), (x378001_4), (x378002_4), (x378003_4), (x378004_4), (x378005_4), (x378006_4), (x378007_4), (x378008_4), (x378009_4), (x378010_4), (x378011_4), (x378012_4), vqP, H', ⟨Nat.le_refl _⟩, ⟨bkP BK377.out⟩, ⟨hbP1 HB.out GE377.out⟩⟩
     case round =>
      clear H'
      obtain ⟨x16_2, x378000_2, x378001_2, x378002_2, x378003_2, x378004_2, x378005_2, x378006_2, x378007_2, x378008_2, x378009_2, x378010_2, x378011_2, x378012_2, rfl, HA, HK2, BK377, HB⟩ := hrel
      cases gk with
      | zero => exact absurd HA.out (by simp [r13_one.l2])
      | succ k2 =>
       have H := HA.out
       clear HA
       simp only [r13_one.l2] at H
       by_cases c49 : x16_2 < ((⟨#[58, 59, 44, 123, 125, 40, 41, 91, 93]⟩ : ByteArray).size : Int)
       ·rw [if_pos c49] at H
        have c49b0 : decide (x16_2 < ((⟨#[58, 59, 44, 123, 125, 40, 41, 91, 93]⟩ : ByteArray).size : Int)) = true := decide_eq_true c49
        (try (have c49b1 : decide (x16_2 < (9 : Int)) = true := decide_eq_true (show (x16_2 < (9 : Int)) from c49)))
        clear c49
        by_cases c50 : 0 ≤ x16_2
        ·rw [if_pos c50] at H
         have c50b0 : decide (0 ≤ x16_2) = true := decide_eq_true c50
         clear c50
         by_cases c52 : (wrap64 (bt (⟨#[58, 59, 44, 123, 125, 40, 41, 91, 93]⟩ : ByteArray) x16_2)) = ((rd_T53 l0 a1).f0)
         ·rw [if_pos c52] at H
          have c52b0 : ((wrap64 (bt (⟨#[58, 59, 44, 123, 125, 40, 41, 91, 93]⟩ : ByteArray) x16_2)) == ((rd_T53 l0 a1).f0)) = true := beq_iff_eq.mpr c52
          have c52b1 : ((wrap64 (bt (⟨#[58, 59, 44, 123, 125, 40, 41, 91, 93]⟩ : ByteArray) x16_2)) != ((rd_T53 l0 a1).f0)) = false := bne_eq_false_iff_eq.mpr c52
          clear c52
          simp only [Option.some.injEq, Prod.mk.injEq] at H
          obtain ⟨rfl, rfl, rfl, rfl, rfl, rfl, rfl, rfl, rfl, rfl, rfl, rfl, rfl, rfl⟩ := H
          have p51 : 0 ≤ (x16_2 : Int) := of_decide_eq_true (by first | (with_reducible assumption) | assumption)
          have q51 : x16_2 < (9 : Int) := of_decide_eq_true (by first | (with_reducible assumption) | assumption)
          have hx51 := bt_at (⟨#[58, 59, 44, 123, 125, 40, 41, 91, 93]⟩ : ByteArray) x16_2
          replace p51 := eq_true p51
          replace q51 := eq_true q51
          have hcz53_0 : wr.cell? ⟨gb377, 0, none⟩ = some (.int .i64 x378000_2) := (blk_cell BK377.out 0).trans rfl
          have hcz53_1 : wr.cell? ⟨gb377, 1, none⟩ = some (.string x378001_2) := (blk_cell BK377.out 1).trans rfl
          have hcz53_2 : wr.cell? ⟨gb377, 2, none⟩ = some (.string x378002_2) := (blk_cell BK377.out 2).trans rfl
          have hcz53_3 : wr.cell? ⟨gb377, 3, none⟩ = some (.bool x378003_2) := (blk_cell BK377.out 3).trans rfl
          have hcz53_4 : wr.cell? ⟨gb377, 4, none⟩ = some (.string x378004_2) := (blk_cell BK377.out 4).trans rfl
          have hcz53_5 : wr.cell? ⟨gb377, 5, none⟩ = some (.string x378005_2) := (blk_cell BK377.out 5).trans rfl
          have hcz53_6 : wr.cell? ⟨gb377, 6, none⟩ = some (.bool x378006_2) := (blk_cell BK377.out 6).trans rfl
          have hcz53_7 : wr.cell? ⟨gb377, 7, none⟩ = some (.bool x378007_2) := (blk_cell BK377.out 7).trans rfl
          have hcz53_8 : wr.cell? ⟨gb377, 8, none⟩ = some (.int .i64 x378008_2) := (blk_cell BK377.out 8).trans rfl
          have hcz53_9 : wr.cell? ⟨gb377, 9, none⟩ = some (.int .i64 x378009_2) := (blk_cell BK377.out 9).trans rfl
          have hcz53_10 : wr.cell? ⟨gb377, 10, none⟩ = some (.int .i64 x378010_2) := (blk_cell BK377.out 10).trans rfl
          have hcz53_11 : wr.cell? ⟨gb377, 11, none⟩ = some (.int .i64 x378011_2) := (blk_cell BK377.out 11).trans rfl
          have hcz53_12 : wr.cell? ⟨gb377, 12, none⟩ = some (.int .i64 x378012_2) := (blk_cell BK377.out 12).trans rfl
          have hfz53_0 := blk_frozen BK377.out 0
          have hfz53_1 := blk_frozen BK377.out 1
          have hfz53_2 := blk_frozen BK377.out 2
          have hfz53_3 := blk_frozen BK377.out 3
          have hfz53_4 := blk_frozen BK377.out 4
          have hfz53_5 := blk_frozen BK377.out 5
          have hfz53_6 := blk_frozen BK377.out 6
          have hfz53_7 := blk_frozen BK377.out 7
          have hfz53_8 := blk_frozen BK377.out 8
          have hfz53_9 := blk_frozen BK377.out 9
          have hfz53_10 := blk_frozen BK377.out 10
          have hfz53_11 := blk_frozen BK377.out 11
          have hfz53_12 := blk_frozen BK377.out 12
          go_wp2_with (first | ((with_reducible refine gate_store (t := 35) (p := 4) rfl ?_); refine store_all13 (t := 35) (p := 4) (v := ?vo_w54) gb377 (.int .i64 (wrap64 (16 + x16_2))) (.string (⟨#[]⟩ : ByteArray)) (.string (⟨#[]⟩ : ByteArray)) (.bool false) (.string (⟨#[]⟩ : ByteArray)) (.string (⟨#[]⟩ : ByteArray)) (.bool false) (.bool false) (.int .i64 0) (.int .i64 0) (.int .i64 0) (.int .i64 0) (.int .i64 0) ?hg ?ho ?hn (bkP BK377.out) ?hx ?hy ?hi ?h1 ?_; (case ho => rfl); (case hg => rfl); (case hn => rfl); (case hx => first | rfl | (go_simp; done) | (go_simp; rfl)); (case hy => first | with_reducible rfl | (go_simp; done) | (go_simp; rfl)); (case hi => kernel_rfl); (case h1 => rfl); intro w54 hw; have n0_ : Aside0 (w54.heap[gb377]? = some (.cells #[.int .i64 (wrap64 (16 + x16_2)), .string (⟨#[]⟩ : ByteArray), .string (⟨#[]⟩ : ByteArray), .bool false, .string (⟨#[]⟩ : ByteArray), .string (⟨#[]⟩ : ByteArray), .bool false, .bool false, .int .i64 0, .int .i64 0, .int .i64 0, .int .i64 0, .int .i64 0] 35 (0, 0))) := ⟨(by rw [hw]; exact (putall13 (bkP BK377.out) (.int .i64 (wrap64 (16 + x16_2))) (.string (⟨#[]⟩ : ByteArray)) (.string (⟨#[]⟩ : ByteArray)) (.bool false) (.string (⟨#[]⟩ : ByteArray)) (.string (⟨#[]⟩ : ByteArray)) (.bool false) (.bool false) (.int .i64 0) (.int .i64 0) (.int .i64 0) (.int .i64 0) (.int .i64 0)))⟩; have n1_ : Aside0 (Below w.heap.size w w54) := ⟨(by rw [hw]; exact (belall13 (hbP0 HB.out) GE377.out (.int .i64 (wrap64 (16 + x16_2))) (.string (⟨#[]⟩ : ByteArray)) (.string (⟨#[]⟩ : ByteArray)) (.bool false) (.string (⟨#[]⟩ : ByteArray)) (.string (⟨#[]⟩ : ByteArray)) (.bool false) (.bool false) (.int .i64 0) (.int .i64 0) (.int .i64 0) (.int .i64 0) (.int .i64 0)))⟩; clear hw; clear BK377; clear HB; have BK377 := n0_; have HB := n1_; clear n0_ n1_))
          refine bodyPost_ret (results_ct rfl _ _ gb377 35 #[.int .i64 (wrap64 (16 + x16_2)), .string (⟨#[]⟩ : ByteArray), .string (⟨#[]⟩ : ByteArray), .bool false, .string (⟨#[]⟩ : ByteArray), .string (⟨#[]⟩ : ByteArray), .bool false, .bool false, .int .i64 0, .int .i64 0, .int .i64 0, .int .i64 0, .int .i64 0] (0, 0) _ rfl (bkP BK377.out) Tryz.underlying35 rfl (by kernel_rfl)) rfl ?_
          exact ⟨by first | rfl | (simp [errW_none, errW_some] <;> rfl) | (simp [*, errW_none, errW_some] <;> rfl), hbP1 HB.out GE377.out⟩
         ·rw [if_neg c52] at H
          have c52b0 : ((wrap64 (bt (⟨#[58, 59, 44, 123, 125, 40, 41, 91, 93]⟩ : ByteArray) x16_2)) == ((rd_T53 l0 a1).f0)) = false := beq_eq_false_iff_ne.mpr c52
          have c52b1 : ((wrap64 (bt (⟨#[58, 59, 44, 123, 125, 40, 41, 91, 93]⟩ : ByteArray) x16_2)) != ((rd_T53 l0 a1).f0)) = true := bne_iff_ne.mpr c52
          have H' := Aside0.mk H
          clear H
          have p51 : 0 ≤ (x16_2 : Int) := of_decide_eq_true (by first | (with_reducible assumption) | assumption)
          have q51 : x16_2 < (9 : Int) := of_decide_eq_true (by first | (with_reducible assumption) | assumption)
          have hx51 := bt_at (⟨#[58, 59, 44, 123, 125, 40, 41, 91, 93]⟩ : ByteArray) x16_2
          replace p51 := eq_true p51
          replace q51 := eq_true q51
          go_wp2
          go_roundg k2
          case measure => have := HJ4.out; have := HK2.out; omega
          case rel => exact ⟨(wrap64 (x16_2 + 1)), (x378000_2), (x378001_2), (x378002_2), (x378003_2), (x378004_2), (x378005_2), (x378006_2), (x378007_2), (x378008_2), (x378009_2), (x378010_2), (x378011_2), (x378012_2), vqP, H', ⟨by have := HJ4.out; have := HK2.out; omega⟩, ⟨bkP BK377.out⟩, ⟨hbP1 HB.out GE377.out⟩⟩
        ·rw [if_neg c50] at H
         exact absurd H (by simp)
       ·rw [if_neg c49] at H
        exact absurd H (by simp)
  ·rw [if_neg c4] at H
   exact absurd H (by simp)
 ·rw [if_neg c3] at H
  exact absurd H (by simp)
end Go.Proofs.YthonpnaccjajcaaGreatDoor.P
