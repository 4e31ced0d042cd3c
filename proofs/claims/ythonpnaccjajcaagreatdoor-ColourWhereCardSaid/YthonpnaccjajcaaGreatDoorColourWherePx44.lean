import Derived.Test.YthonpnaccjajcaaGreatDoorColourWherePx4
import Derived.Test.YthonpnaccjajcaaGreatDoorColourWherePx14
import Derived.Test.YthonpnaccjajcaaGreatDoorColourWherePx25
import Derived.Test.YthonpnaccjajcaaGreatDoorColourWherePx40
import Derived.Test.YthonpnaccjajcaaGreatDoorColourWherePx43
namespace Go.Proofs.YthonpnaccjajcaaGreatDoor.P
open Go.RowKit Go.Proofs.YthonpnaccjajcaaGreatDoorW.PrintWords Go.Proofs.YthonpnaccjajcaaGreatDoorW.PrintLast Go.Proofs.YthonpnaccjajcaaGreatDoorW.PrintMore Go.Proofs.YthonpnaccjajcaaGreatDoorX
attribute [local go_sem] max2_int min2_int max_two min_two max_three min_three max_four min_four
set_option linter.unusedVariables false
set_option linter.unusedSimpArgs false
mutual
def l19_ColourWhere.j0 : Nat → Int → Bool → List ByteArray → List Int → Bool → Option (Bool)
 | 0, _, _, _, _, _ => none
 | k + 1, x0, x3, x4, x5, x23 => if x23 = true then (some x3) else (if 0 ≤ x0 then (if x0 < (x4.length : Int) then (if (rdOf ByteArray.empty x4 x0).size ≤ 9223372036854775807 then ((r13_Runes.f k (bytesOf (rdOf ByteArray.empty x4 x0))).bind fun t469 => ((r13_Clex.f k t469).bind fun t472 => ((r17_Value.f k t472).bind fun t475 => ((colour_Mark.f k t475).bind fun t478 => (l19_ColourWhere.l0 k x0 x5 t478 0 0))))) else (none)) else (none)) else (none))
def l19_ColourWhere.l0 : Nat → Int → List Int → List (S35) → Int → Int → Option (Bool)
 | 0, _, _, _, _, _ => none
 | k + 1, x0, x5, x6, x7, x8 => if x8 < (x6.length : Int) then (if 0 ≤ x8 then (if ((rd_T35 x6 x8).f0) = 26 then (l19_ColourWhere.l0 k x0 x5 x6 (wrap64 (x7 + 1)) (wrap64 (x8 + 1))) else (l19_ColourWhere.l0 k x0 x5 x6 x7 (wrap64 (x8 + 1)))) else (none)) else (if 0 ≤ x0 then (if x0 < (x5.length : Int) then (some (x7 == (rd x5 x0))) else (none)) else (none))
end
def l19_ColourWhere.f (k : Nat) (a0 : Int) : Option (Bool) := (l19_alive.f k).bind fun t458 => ((some (([(⟨#[97, 123, 99, 111, 108, 111, 114, 58, 114, 101, 100, 125]⟩ : ByteArray), (⟨#[97, 123, 99, 111, 108, 111, 117, 114, 58, 114, 101, 100, 125]⟩ : ByteArray), (⟨#[114, 101, 100, 123, 99, 111, 108, 111, 114, 58, 35, 97, 98, 99, 125]⟩ : ByteArray), (⟨#[97, 123, 99, 111, 108, 111, 114, 58, 102, 40, 114, 101, 100, 41, 125]⟩ : ByteArray), (⟨#[97, 123, 99, 111, 108, 111, 114, 58, 102, 40, 114, 101, 100, 41, 116, 97, 110, 125]⟩ : ByteArray), (⟨#[97, 123, 67, 79, 76, 79, 82, 58, 35, 65, 66, 67, 68, 69, 70, 125]⟩ : ByteArray), (⟨#[97, 123, 99, 111, 108, 111, 114, 58, 114, 101, 100, 59, 98, 58, 114, 101, 100, 125]⟩ : ByteArray), (⟨#[97, 123, 102, 105, 108, 108, 58, 114, 101, 100, 32, 98, 108, 117, 101, 125]⟩ : ByteArray), (⟨#[99, 111, 108, 111, 114, 58, 114, 101, 100]⟩ : ByteArray), (⟨#[97, 123, 99, 111, 108, 111, 114, 58, 35, 49, 50, 125]⟩ : ByteArray), (⟨#[97, 123, 99, 111, 108, 111, 114, 58, 114, 101, 100, 115, 125]⟩ : ByteArray), (⟨#[97, 123, 98, 111, 114, 100, 101, 114, 45, 99, 111, 108, 111, 114, 58, 114, 101, 100, 32, 116, 97, 110, 32, 35, 48, 48, 48, 125]⟩ : ByteArray), (⟨#[97, 123, 98, 123, 115, 116, 114, 111, 107, 101, 58, 114, 101, 100, 125, 125]⟩ : ByteArray), (⟨#[97, 123, 99, 111, 108, 111, 114, 58, 40, 114, 101, 100, 41, 125]⟩ : ByteArray), (⟨#[97, 123, 99, 111, 108, 111, 114, 58, 114, 101, 100]⟩ : ByteArray)] : List ByteArray) : List ByteArray)).bind fun y459 => ((some (([1, 0, 1, 0, 1, 1, 1, 2, 0, 0, 0, 3, 1, 0, 1] : List Int) : List Int)).bind fun y462 => (if t458 = true then (if a0 < 0 then (l19_ColourWhere.j0 k a0 t458 y459 y462 true) else (l19_ColourWhere.j0 k a0 t458 y459 y462 (decide (a0 ≥ (y459.length : Int))))) else (none))))
set_option maxHeartbeats 8000000 in
set_option maxRecDepth 100000 in
theorem l19_ColourWhere.calls (k : Nat) (a0 : Int) (r : Bool) (w : World) (hL : LaidW w) (hr_ : Aside0 (r = true)) (h : l19_ColourWhere.f k a0 = some r) :
  Calls Tryz.prog 3 #[.int .i64 a0] w fun e w' => e = .returned (.bool r) ∧ Below w.heap.size w w' := by
 have HB := Aside0.mk (Below.refl w.heap.size w)
 have H : ((l19_alive.f k).bind fun t458 => ((some (([(⟨#[97, 123, 99, 111, 108, 111, 114, 58, 114, 101, 100, 125]⟩ : ByteArray), (⟨#[97, 123, 99, 111, 108, 111, 117, 114, 58, 114, 101, 100, 125]⟩ : ByteArray), (⟨#[114, 101, 100, 123, 99, 111, 108, 111, 114, 58, 35, 97, 98, 99, 125]⟩ : ByteArray), (⟨#[97, 123, 99, 111, 108, 111, 114, 58, 102, 40, 114, 101, 100, 41, 125]⟩ : ByteArray), (⟨#[97, 123, 99, 111, 108, 111, 114, 58, 102, 40, 114, 101, 100, 41, 116, 97, 110, 125]⟩ : ByteArray), (⟨#[97, 123, 67, 79, 76, 79, 82, 58, 35, 65, 66, 67, 68, 69, 70, 125]⟩ : ByteArray), (⟨#[97, 123, 99, 111, 108, 111, 114, 58, 114, 101, 100, 59, 98, 58, 114, 101, 100, 125]⟩ : ByteArray), (⟨#[97, 123, 102, 105, 108, 108, 58, 114, 101, 100, 32, 98, 108, 117, 101, 125]⟩ : ByteArray), (⟨#[99, 111, 108, 111, 114, 58, 114, 101, 100]⟩ : ByteArray), (⟨#[97, 123, 99, 111, 108, 111, 114, 58, 35, 49, 50, 125]⟩ : ByteArray), (⟨#[97, 123, 99, 111, 108, 111, 114, 58, 114, 101, 100, 115, 125]⟩ : ByteArray), (⟨#[97, 123, 98, 111, 114, 100, 101, 114, 45, 99, 111, 108, 111, 114, 58, 114, 101, 100, 32, 116, 97, 110, 32, 35, 48, 48, 48, 125]⟩ : ByteArray), (⟨#[97, 123, 98, 123, 115, 116, 114, 111, 107, 101, 58, 114, 101, 100, 125, 125]⟩ : ByteArray), (⟨#[97, 123, 99, 111, 108, 111, 114, 58, 40, 114, 101, 100, 41, 125]⟩ : ByteArray), (⟨#[97, 123, 99, 111, 108, 111, 114, 58, 114, 101, 100]⟩ : ByteArray)] : List ByteArray) : List ByteArray)).bind fun y459 => ((some (([1, 0, 1, 0, 1, 1, 1, 2, 0, 0, 0, 3, 1, 0, 1] : List Int) : List Int)).bind fun y462 => (if t458 = true then (if a0 < 0 then (l19_ColourWhere.j0 k a0 t458 y459 y462 true) else (l19_ColourWhere.j0 k a0 t458 y459 y462 (decide (a0 ≥ (y459.length : Int))))) else (none))))) = some r := h
 clear h
 replace H := Option.bind_eq_some_iff.mp H
 obtain ⟨t458, A20, H⟩ := H
 replace H : ((some (([(⟨#[97, 123, 99, 111, 108, 111, 114, 58, 114, 101, 100, 125]⟩ : ByteArray), (⟨#[97, 123, 99, 111, 108, 111, 117, 114, 58, 114, 101, 100, 125]⟩ : ByteArray), (⟨#[114, 101, 100, 123, 99, 111, 108, 111, 114, 58, 35, 97, 98, 99, 125]⟩ : ByteArray), (⟨#[97, 123, 99, 111, 108, 111, 114, 58, 102, 40, 114, 101, 100, 41, 125]⟩ : ByteArray), (⟨#[97, 123, 99, 111, 108, 111, 114, 58, 102, 40, 114, 101, 100, 41, 116, 97, 110, 125]⟩ : ByteArray), (⟨#[97, 123, 67, 79, 76, 79, 82, 58, 35, 65, 66, 67, 68, 69, 70, 125]⟩ : ByteArray), (⟨#[97, 123, 99, 111, 108, 111, 114, 58, 114, 101, 100, 59, 98, 58, 114, 101, 100, 125]⟩ : ByteArray), (⟨#[97, 123, 102, 105, 108, 108, 58, 114, 101, 100, 32, 98, 108, 117, 101, 125]⟩ : ByteArray), (⟨#[99, 111, 108, 111, 114, 58, 114, 101, 100]⟩ : ByteArray), (⟨#[97, 123, 99, 111, 108, 111, 114, 58, 35, 49, 50, 125]⟩ : ByteArray), (⟨#[97, 123, 99, 111, 108, 111, 114, 58, 114, 101, 100, 115, 125]⟩ : ByteArray), (⟨#[97, 123, 98, 111, 114, 100, 101, 114, 45, 99, 111, 108, 111, 114, 58, 114, 101, 100, 32, 116, 97, 110, 32, 35, 48, 48, 48, 125]⟩ : ByteArray), (⟨#[97, 123, 98, 123, 115, 116, 114, 111, 107, 101, 58, 114, 101, 100, 125, 125]⟩ : ByteArray), (⟨#[97, 123, 99, 111, 108, 111, 114, 58, 40, 114, 101, 100, 41, 125]⟩ : ByteArray), (⟨#[97, 123, 99, 111, 108, 111, 114, 58, 114, 101, 100]⟩ : ByteArray)] : List ByteArray) : List ByteArray)).bind fun y459 => ((some (([1, 0, 1, 0, 1, 1, 1, 2, 0, 0, 0, 3, 1, 0, 1] : List Int) : List Int)).bind fun y462 => (if t458 = true then (if a0 < 0 then (l19_ColourWhere.j0 k a0 t458 y459 y462 true) else (l19_ColourWhere.j0 k a0 t458 y459 y462 (decide (a0 ≥ (y459.length : Int))))) else (none)))) = some r := H
 have A2 := Aside0.mk A20
 clear A20
 obtain ⟨y459, hy459⟩ : ∃ y_ : List ByteArray, y_ = (([(⟨#[97, 123, 99, 111, 108, 111, 114, 58, 114, 101, 100, 125]⟩ : ByteArray), (⟨#[97, 123, 99, 111, 108, 111, 117, 114, 58, 114, 101, 100, 125]⟩ : ByteArray), (⟨#[114, 101, 100, 123, 99, 111, 108, 111, 114, 58, 35, 97, 98, 99, 125]⟩ : ByteArray), (⟨#[97, 123, 99, 111, 108, 111, 114, 58, 102, 40, 114, 101, 100, 41, 125]⟩ : ByteArray), (⟨#[97, 123, 99, 111, 108, 111, 114, 58, 102, 40, 114, 101, 100, 41, 116, 97, 110, 125]⟩ : ByteArray), (⟨#[97, 123, 67, 79, 76, 79, 82, 58, 35, 65, 66, 67, 68, 69, 70, 125]⟩ : ByteArray), (⟨#[97, 123, 99, 111, 108, 111, 114, 58, 114, 101, 100, 59, 98, 58, 114, 101, 100, 125]⟩ : ByteArray), (⟨#[97, 123, 102, 105, 108, 108, 58, 114, 101, 100, 32, 98, 108, 117, 101, 125]⟩ : ByteArray), (⟨#[99, 111, 108, 111, 114, 58, 114, 101, 100]⟩ : ByteArray), (⟨#[97, 123, 99, 111, 108, 111, 114, 58, 35, 49, 50, 125]⟩ : ByteArray), (⟨#[97, 123, 99, 111, 108, 111, 114, 58, 114, 101, 100, 115, 125]⟩ : ByteArray), (⟨#[97, 123, 98, 111, 114, 100, 101, 114, 45, 99, 111, 108, 111, 114, 58, 114, 101, 100, 32, 116, 97, 110, 32, 35, 48, 48, 48, 125]⟩ : ByteArray), (⟨#[97, 123, 98, 123, 115, 116, 114, 111, 107, 101, 58, 114, 101, 100, 125, 125]⟩ : ByteArray), (⟨#[97, 123, 99, 111, 108, 111, 114, 58, 40, 114, 101, 100, 41, 125]⟩ : ByteArray), (⟨#[97, 123, 99, 111, 108, 111, 114, 58, 114, 101, 100]⟩ : ByteArray)] : List ByteArray)) := ⟨_, rfl⟩
 replace H : ((some (([1, 0, 1, 0, 1, 1, 1, 2, 0, 0, 0, 3, 1, 0, 1] : List Int) : List Int)).bind fun y462 => (if t458 = true then (if a0 < 0 then (l19_ColourWhere.j0 k a0 t458 y459 y462 true) else (l19_ColourWhere.j0 k a0 t458 y459 y462 (decide (a0 ≥ (y459.length : Int))))) else (none))) = some r := by first | (rw [hy459]; with_reducible exact H) | (have H2_ := (Option.bind_some _ _).symm.trans H; rw [hy459]; with_reducible exact H2_) | (have H2_ := (Option.bind_some _ _).symm.trans H; with_reducible exact H2_) | with_reducible exact H | (rw [hy459]; exact H) | exact H
 have Ny459 := Aside0.mk hy459
 clear hy459
 obtain ⟨y462, hy462⟩ : ∃ y_ : List Int, y_ = (([1, 0, 1, 0, 1, 1, 1, 2, 0, 0, 0, 3, 1, 0, 1] : List Int)) := ⟨_, rfl⟩
 replace H : (if t458 = true then (if a0 < 0 then (l19_ColourWhere.j0 k a0 t458 y459 y462 true) else (l19_ColourWhere.j0 k a0 t458 y459 y462 (decide (a0 ≥ (y459.length : Int))))) else (none)) = some r := by first | (rw [hy462]; with_reducible exact H) | (have H2_ := (Option.bind_some _ _).symm.trans H; rw [hy462]; with_reducible exact H2_) | (have H2_ := (Option.bind_some _ _).symm.trans H; with_reducible exact H2_) | with_reducible exact H | (rw [hy462]; exact H) | exact H
 have Ny462 := Aside0.mk hy462
 clear hy462
 have HC3 := Aside0.mk H
 clear H
 go_enter Tryz.func3, Tryz.ntmps3
 go_upto_region 4 with (first | ((with_reducible refine gate_callee (f := 4) rfl ?_); refine goesL_ (some 9) rfl rfl Tryz.func4 (by kernel_rfl) rfl #[] rfl agP ?_; (with_reducible refine (l19_alive.calls k  t458 _ ?side1 A2.out).mono ?_); (case side1 => first | exact hL | exact LaidW.below hL (hbP0 HB.out) | (repeat (first | exact hL | apply LaidW.drewN | apply LaidW.drew))); rintro e w4 ⟨rfl, hb⟩; refine ⟨_, rfl, ?_⟩; have n0_ := Aside0.mk (below_step (hbP0 HB.out) hb); clear HB; have HB := n0_; clear n0_; (try clear hb); (try clear hb2); (try clear hk); (try clear hi)) | ((with_reducible refine gate_dst (N := 10) rfl ?_); (try (refine gate_guard (by rfl) ?_; dsimp only)); refine Kd.R_lit Kd.string _ 9 ?hg (N := 10) ?hd (xs := ([(⟨#[97, 123, 99, 111, 108, 111, 114, 58, 114, 101, 100, 125]⟩ : ByteArray), (⟨#[97, 123, 99, 111, 108, 111, 117, 114, 58, 114, 101, 100, 125]⟩ : ByteArray), (⟨#[114, 101, 100, 123, 99, 111, 108, 111, 114, 58, 35, 97, 98, 99, 125]⟩ : ByteArray), (⟨#[97, 123, 99, 111, 108, 111, 114, 58, 102, 40, 114, 101, 100, 41, 125]⟩ : ByteArray), (⟨#[97, 123, 99, 111, 108, 111, 114, 58, 102, 40, 114, 101, 100, 41, 116, 97, 110, 125]⟩ : ByteArray), (⟨#[97, 123, 67, 79, 76, 79, 82, 58, 35, 65, 66, 67, 68, 69, 70, 125]⟩ : ByteArray), (⟨#[97, 123, 99, 111, 108, 111, 114, 58, 114, 101, 100, 59, 98, 58, 114, 101, 100, 125]⟩ : ByteArray), (⟨#[97, 123, 102, 105, 108, 108, 58, 114, 101, 100, 32, 98, 108, 117, 101, 125]⟩ : ByteArray), (⟨#[99, 111, 108, 111, 114, 58, 114, 101, 100]⟩ : ByteArray), (⟨#[97, 123, 99, 111, 108, 111, 114, 58, 35, 49, 50, 125]⟩ : ByteArray), (⟨#[97, 123, 99, 111, 108, 111, 114, 58, 114, 101, 100, 115, 125]⟩ : ByteArray), (⟨#[97, 123, 98, 111, 114, 100, 101, 114, 45, 99, 111, 108, 111, 114, 58, 114, 101, 100, 32, 116, 97, 110, 32, 35, 48, 48, 48, 125]⟩ : ByteArray), (⟨#[97, 123, 98, 123, 115, 116, 114, 111, 107, 101, 58, 114, 101, 100, 125, 125]⟩ : ByteArray), (⟨#[97, 123, 99, 111, 108, 111, 114, 58, 40, 114, 101, 100, 41, 125]⟩ : ByteArray), (⟨#[97, 123, 99, 111, 108, 111, 114, 58, 114, 101, 100]⟩ : ByteArray)] : List ByteArray)) (inner := [.string (⟨#[97, 123, 99, 111, 108, 111, 114, 58, 114, 101, 100, 125]⟩ : ByteArray), .string (⟨#[97, 123, 99, 111, 108, 111, 117, 114, 58, 114, 101, 100, 125]⟩ : ByteArray), .string (⟨#[114, 101, 100, 123, 99, 111, 108, 111, 114, 58, 35, 97, 98, 99, 125]⟩ : ByteArray), .string (⟨#[97, 123, 99, 111, 108, 111, 114, 58, 102, 40, 114, 101, 100, 41, 125]⟩ : ByteArray), .string (⟨#[97, 123, 99, 111, 108, 111, 114, 58, 102, 40, 114, 101, 100, 41, 116, 97, 110, 125]⟩ : ByteArray), .string (⟨#[97, 123, 67, 79, 76, 79, 82, 58, 35, 65, 66, 67, 68, 69, 70, 125]⟩ : ByteArray), .string (⟨#[97, 123, 99, 111, 108, 111, 114, 58, 114, 101, 100, 59, 98, 58, 114, 101, 100, 125]⟩ : ByteArray), .string (⟨#[97, 123, 102, 105, 108, 108, 58, 114, 101, 100, 32, 98, 108, 117, 101, 125]⟩ : ByteArray), .string (⟨#[99, 111, 108, 111, 114, 58, 114, 101, 100]⟩ : ByteArray), .string (⟨#[97, 123, 99, 111, 108, 111, 114, 58, 35, 49, 50, 125]⟩ : ByteArray), .string (⟨#[97, 123, 99, 111, 108, 111, 114, 58, 114, 101, 100, 115, 125]⟩ : ByteArray), .string (⟨#[97, 123, 98, 111, 114, 100, 101, 114, 45, 99, 111, 108, 111, 114, 58, 114, 101, 100, 32, 116, 97, 110, 32, 35, 48, 48, 48, 125]⟩ : ByteArray), .string (⟨#[97, 123, 98, 123, 115, 116, 114, 111, 107, 101, 58, 114, 101, 100, 125, 125]⟩ : ByteArray), .string (⟨#[97, 123, 99, 111, 108, 111, 114, 58, 40, 114, 101, 100, 41, 125]⟩ : ByteArray), .string (⟨#[97, 123, 99, 111, 108, 111, 114, 58, 114, 101, 100]⟩ : ByteArray)]) (ok := fun _ => True) (okp := fun _ => True) ?hr ?hp (fun _ hk => hk) trivial (Below.refl _ _) (Nat.le_refl _) (by simp) ?_; (case hd => rfl); (case hg => rfl); (case hr => first | (go_simp; done) | (go_simp; rfl)); (case hp => exact (Reps.one (show Kd.M Kd.string _ _ _ (⟨#[97, 123, 99, 111, 108, 111, 114, 58, 114, 101, 100, 125]⟩ : ByteArray) [.string (⟨#[97, 123, 99, 111, 108, 111, 114, 58, 114, 101, 100, 125]⟩ : ByteArray)] from rfl) (Reps.one (show Kd.M Kd.string _ _ _ (⟨#[97, 123, 99, 111, 108, 111, 117, 114, 58, 114, 101, 100, 125]⟩ : ByteArray) [.string (⟨#[97, 123, 99, 111, 108, 111, 117, 114, 58, 114, 101, 100, 125]⟩ : ByteArray)] from rfl) (Reps.one (show Kd.M Kd.string _ _ _ (⟨#[114, 101, 100, 123, 99, 111, 108, 111, 114, 58, 35, 97, 98, 99, 125]⟩ : ByteArray) [.string (⟨#[114, 101, 100, 123, 99, 111, 108, 111, 114, 58, 35, 97, 98, 99, 125]⟩ : ByteArray)] from rfl) (Reps.one (show Kd.M Kd.string _ _ _ (⟨#[97, 123, 99, 111, 108, 111, 114, 58, 102, 40, 114, 101, 100, 41, 125]⟩ : ByteArray) [.string (⟨#[97, 123, 99, 111, 108, 111, 114, 58, 102, 40, 114, 101, 100, 41, 125]⟩ : ByteArray)] from rfl) (Reps.one (show Kd.M Kd.string _ _ _ (⟨#[97, 123, 99, 111, 108, 111, 114, 58, 102, 40, 114, 101, 100, 41, 116, 97, 110, 125]⟩ : ByteArray) [.string (⟨#[97, 123, 99, 111, 108, 111, 114, 58, 102, 40, 114, 101, 100, 41, 116, 97, 110, 125]⟩ : ByteArray)] from rfl) (Reps.one (show Kd.M Kd.string _ _ _ (⟨#[97, 123, 67, 79, 76, 79, 82, 58, 35, 65, 66, 67, 68, 69, 70, 125]⟩ : ByteArray) [.string (⟨#[97, 123, 67, 79, 76, 79, 82, 58, 35, 65, 66, 67, 68, 69, 70, 125]⟩ : ByteArray)] from rfl) (Reps.one (show Kd.M Kd.string _ _ _ (⟨#[97, 123, 99, 111, 108, 111, 114, 58, 114, 101, 100, 59, 98, 58, 114, 101, 100, 125]⟩ : ByteArray) [.string (⟨#[97, 123, 99, 111, 108, 111, 114, 58, 114, 101, 100, 59, 98, 58, 114, 101, 100, 125]⟩ : ByteArray)] from rfl) (Reps.one (show Kd.M Kd.string _ _ _ (⟨#[97, 123, 102, 105, 108, 108, 58, 114, 101, 100, 32, 98, 108, 117, 101, 125]⟩ : ByteArray) [.string (⟨#[97, 123, 102, 105, 108, 108, 58, 114, 101, 100, 32, 98, 108, 117, 101, 125]⟩ : ByteArray)] from rfl) (Reps.one (show Kd.M Kd.string _ _ _ (⟨#[99, 111, 108, 111, 114, 58, 114, 101, 100]⟩ : ByteArray) [.string (⟨#[99, 111, 108, 111, 114, 58, 114, 101, 100]⟩ : ByteArray)] from rfl) (Reps.one (show Kd.M Kd.string _ _ _ (⟨#[97, 123, 99, 111, 108, 111, 114, 58, 35, 49, 50, 125]⟩ : ByteArray) [.string (⟨#[97, 123, 99, 111, 108, 111, 114, 58, 35, 49, 50, 125]⟩ : ByteArray)] from rfl) (Reps.one (show Kd.M Kd.string _ _ _ (⟨#[97, 123, 99, 111, 108, 111, 114, 58, 114, 101, 100, 115, 125]⟩ : ByteArray) [.string (⟨#[97, 123, 99, 111, 108, 111, 114, 58, 114, 101, 100, 115, 125]⟩ : ByteArray)] from rfl) (Reps.one (show Kd.M Kd.string _ _ _ (⟨#[97, 123, 98, 111, 114, 100, 101, 114, 45, 99, 111, 108, 111, 114, 58, 114, 101, 100, 32, 116, 97, 110, 32, 35, 48, 48, 48, 125]⟩ : ByteArray) [.string (⟨#[97, 123, 98, 111, 114, 100, 101, 114, 45, 99, 111, 108, 111, 114, 58, 114, 101, 100, 32, 116, 97, 110, 32, 35, 48, 48, 48, 125]⟩ : ByteArray)] from rfl) (Reps.one (show Kd.M Kd.string _ _ _ (⟨#[97, 123, 98, 123, 115, 116, 114, 111, 107, 101, 58, 114, 101, 100, 125, 125]⟩ : ByteArray) [.string (⟨#[97, 123, 98, 123, 115, 116, 114, 111, 107, 101, 58, 114, 101, 100, 125, 125]⟩ : ByteArray)] from rfl) (Reps.one (show Kd.M Kd.string _ _ _ (⟨#[97, 123, 99, 111, 108, 111, 114, 58, 40, 114, 101, 100, 41, 125]⟩ : ByteArray) [.string (⟨#[97, 123, 99, 111, 108, 111, 114, 58, 40, 114, 101, 100, 41, 125]⟩ : ByteArray)] from rfl) (Reps.one (show Kd.M Kd.string _ _ _ (⟨#[97, 123, 99, 111, 108, 111, 114, 58, 114, 101, 100]⟩ : ByteArray) [.string (⟨#[97, 123, 99, 111, 108, 111, 114, 58, 114, 101, 100]⟩ : ByteArray)] from rfl) (Reps.none _ _))))))))))))))))); intro v460 w5 ho6 hb hg_ hnew_; clear hg_ hnew_; (first | rw [← Ny459.out] at ho6 | (simp only [Int.reduceToNat] at ho6; rw [← Ny459.out] at ho6)); have n0_ := Aside0.mk (Kd.R_lower ho6 (below_size (hbP0 HB.out))); have n1_ := Aside0.mk (below_step (hbP0 HB.out) hb); clear HB; have HO461 := n0_; have HB := n1_; clear n0_ n1_; clear hb ho6) | ((with_reducible refine gate_dst (N := 11) rfl ?_); (try (refine gate_guard (by rfl) ?_; dsimp only)); refine Kd.R_lit (Kd.int .i64) _ 3 ?hg (N := 11) ?hd (xs := ([1, 0, 1, 0, 1, 1, 1, 2, 0, 0, 0, 3, 1, 0, 1] : List Int)) (inner := [.int .i64 1, .int .i64 0, .int .i64 1, .int .i64 0, .int .i64 1, .int .i64 1, .int .i64 1, .int .i64 2, .int .i64 0, .int .i64 0, .int .i64 0, .int .i64 3, .int .i64 1, .int .i64 0, .int .i64 1]) (ok := fun _ => True) (okp := fun _ => True) ?hr ?hp (fun _ hk => hk) trivial (Below.refl _ _) (Nat.le_refl _) (by simp) ?_; (case hd => rfl); (case hg => rfl); (case hr => first | (go_simp; done) | (go_simp; rfl)); (case hp => exact (Reps.one (show Kd.M (Kd.int .i64) _ _ _ 1 [.int .i64 1] from rfl) (Reps.one (show Kd.M (Kd.int .i64) _ _ _ 0 [.int .i64 0] from rfl) (Reps.one (show Kd.M (Kd.int .i64) _ _ _ 1 [.int .i64 1] from rfl) (Reps.one (show Kd.M (Kd.int .i64) _ _ _ 0 [.int .i64 0] from rfl) (Reps.one (show Kd.M (Kd.int .i64) _ _ _ 1 [.int .i64 1] from rfl) (Reps.one (show Kd.M (Kd.int .i64) _ _ _ 1 [.int .i64 1] from rfl) (Reps.one (show Kd.M (Kd.int .i64) _ _ _ 1 [.int .i64 1] from rfl) (Reps.one (show Kd.M (Kd.int .i64) _ _ _ 2 [.int .i64 2] from rfl) (Reps.one (show Kd.M (Kd.int .i64) _ _ _ 0 [.int .i64 0] from rfl) (Reps.one (show Kd.M (Kd.int .i64) _ _ _ 0 [.int .i64 0] from rfl) (Reps.one (show Kd.M (Kd.int .i64) _ _ _ 0 [.int .i64 0] from rfl) (Reps.one (show Kd.M (Kd.int .i64) _ _ _ 3 [.int .i64 3] from rfl) (Reps.one (show Kd.M (Kd.int .i64) _ _ _ 1 [.int .i64 1] from rfl) (Reps.one (show Kd.M (Kd.int .i64) _ _ _ 0 [.int .i64 0] from rfl) (Reps.one (show Kd.M (Kd.int .i64) _ _ _ 1 [.int .i64 1] from rfl) (Reps.none _ _))))))))))))))))); intro v463 w7 ho8 hb hg_ hnew_; clear hg_ hnew_; (first | rw [← Ny462.out] at ho8 | (simp only [Int.reduceToNat] at ho8; rw [← Ny462.out] at ho8)); have n0_ := Aside0.mk (Kd.R_below (rwP HO461.out) hb); have n1_ := Aside0.mk (Kd.R_lower ho8 (below_size (hbP0 HB.out))); have n2_ := Aside0.mk (below_step (hbP0 HB.out) hb); clear HO461; clear HB; have HO461 := n0_; have HO464 := n1_; have HB := n2_; clear n0_ n1_ n2_; clear hb ho8))
 (try simp only [Act.put, List.setIfInBounds_toArray, List.set_cons_zero, List.set_cons_succ])
 go_cut [23] (fun v23 wc => ∃ (kq : Nat) (x23_2 : Bool), v23 = .bool x23_2 ∧ Aside0 (l19_ColourWhere.j0 kq a0 t458 y459 y462 x23_2 = some r) ∧ Aside0 (kq ≤ k) ∧ Aside0 (Kd.R Kd.string 9 wc w.heap.size (fun _ => True) v460 y459) ∧ Aside0 (Kd.R (Kd.int .i64) 3 wc w.heap.size (fun _ => True) v463 y462) ∧ Aside0 (Below w.heap.size w wc))
 case first =>
  have H := HC3.out
  clear HC3
  by_cases c9 : t458 = true
  ·subst c9
   have H1 : (if a0 < 0 then (l19_ColourWhere.j0 k a0 true y459 y462 true) else (l19_ColourWhere.j0 k a0 true y459 y462 (decide (a0 ≥ (y459.length : Int))))) = some r := by rw [if_pos rfl] at H; exact H
   clear H
   have H := H1
   clear H1
   by_cases c10 : a0 < 0
   ·rw [if_pos c10] at H
    have c10b0 : decide (a0 < 0) = true := decide_eq_true c10
    clear c10
    (first | rw [c10b0] | (simp only [i64_w, i32_w]; rw [c10b0]) | skip)
    have H' := Aside0.mk H
    clear H
    go_wp2
    go_meet
    case rel => exact ⟨_, (true), vqP, H', ⟨by first | omega | exact Nat.le_refl _⟩, ⟨rwP HO461.out⟩, ⟨rwP HO464.out⟩, ⟨hbP0 HB.out⟩⟩
   ·rw [if_neg c10] at H
    have c10b0 : decide (a0 < 0) = false := decide_eq_false c10
    clear c10
    (first | rw [c10b0] | (simp only [i64_w, i32_w]; rw [c10b0]) | skip)
    have H' := Aside0.mk H
    clear H
    obtain ⟨Ao11, co11, eo11⟩ := Kd.R_slice HO461.out
    subst eo11
    go_wp2
    go_meet
    case rel => exact ⟨_, (decide (a0 ≥ (y459.length : Int))), vqP, H', ⟨by first | omega | exact Nat.le_refl _⟩, ⟨rwP HO461.out⟩, ⟨rwP HO464.out⟩, ⟨hbP0 HB.out⟩⟩
  ·replace c9 := Bool.eq_false_iff.mpr c9
   subst c9
   have H1 : (none) = some r := by rw [if_neg (show ¬ (false = true) by decide)] at H; exact H
   clear H
   have H := H1
   clear H1
   exact absurd H (by simp)
 case rest =>
  clear HC3
  obtain ⟨kq, x23_2, rfl, HA, HJ2, HO_4, HO_5, HB⟩ := hcut
  cases kq with
  | zero => exact absurd HA.out (by simp [l19_ColourWhere.j0])
  | succ kj2 =>
   have H := HA.out
   clear HA
   simp only [l19_ColourWhere.j0] at H
   by_cases c12 : x23_2 = true
   ·subst c12
    have H1 : (some t458) = some r := by rw [if_pos rfl] at H; exact H
    clear H
    have H := H1
    clear H1
    obtain rfl := Option.some.inj H
    go_wp2
    go_ret
    exact ⟨by first | rfl | (simp [errW_none, errW_some] <;> rfl) | (simp [*, errW_none, errW_some] <;> rfl), hbP0 HB.out⟩
   ·replace c12 := Bool.eq_false_iff.mpr c12
    subst c12
    have H1 : (if 0 ≤ a0 then (if a0 < (y459.length : Int) then (if (rdOf ByteArray.empty y459 a0).size ≤ 9223372036854775807 then ((r13_Runes.f kj2 (bytesOf (rdOf ByteArray.empty y459 a0))).bind fun t469 => ((r13_Clex.f kj2 t469).bind fun t472 => ((r17_Value.f kj2 t472).bind fun t475 => ((colour_Mark.f kj2 t475).bind fun t478 => (l19_ColourWhere.l0 kj2 a0 y462 t478 0 0))))) else (none)) else (none)) else (none)) = some r := by rw [if_neg (show ¬ (false = true) by decide)] at H; exact H
    clear H
    have H := H1
    clear H1
    by_cases c13 : 0 ≤ a0
    ·rw [if_pos c13] at H
     have c13b0 : decide (0 ≤ a0) = true := decide_eq_true c13
     clear c13
     by_cases c14 : a0 < (y459.length : Int)
     ·rw [if_pos c14] at H
      have c14b0 : decide (a0 < (y459.length : Int)) = true := decide_eq_true c14
      clear c14
      by_cases c15 : (rdOf ByteArray.empty y459 a0).size ≤ 9223372036854775807
      ·rw [if_pos c15] at H
       have c15b0 := eq_true c15
       have c15b1 : decide ((rdOf ByteArray.empty y459 a0).size ≤ 9223372036854775807) = true := decide_eq_true c15
       try have c15b2 : (9223372036854775807 < (rdOf ByteArray.empty y459 a0).size) = False := eq_false (Nat.not_lt.2 c15)
       clear c15
       obtain ⟨y466, hy466⟩ : ∃ y_ : List Int, y_ = (bytesOf (rdOf ByteArray.empty y459 a0)) := ⟨_, rfl⟩
       replace H : ((r13_Runes.f kj2 y466).bind fun t469 => ((r13_Clex.f kj2 t469).bind fun t472 => ((r17_Value.f kj2 t472).bind fun t475 => ((colour_Mark.f kj2 t475).bind fun t478 => (l19_ColourWhere.l0 kj2 a0 y462 t478 0 0))))) = some r := by first | (rw [hy466]; with_reducible exact H) | (have H2_ := (Option.bind_some _ _).symm.trans H; rw [hy466]; with_reducible exact H2_) | (have H2_ := (Option.bind_some _ _).symm.trans H; with_reducible exact H2_) | with_reducible exact H | (rw [hy466]; exact H) | exact H
       have Ny466 := Aside0.mk hy466
       clear hy466
       replace H := Option.bind_eq_some_iff.mp H
       obtain ⟨t469, A160, H⟩ := H
       replace H : ((r13_Clex.f kj2 t469).bind fun t472 => ((r17_Value.f kj2 t472).bind fun t475 => ((colour_Mark.f kj2 t475).bind fun t478 => (l19_ColourWhere.l0 kj2 a0 y462 t478 0 0)))) = some r := H
       have A16 := Aside0.mk A160
       clear A160
       replace H := Option.bind_eq_some_iff.mp H
       obtain ⟨t472, A170, H⟩ := H
       replace H : ((r17_Value.f kj2 t472).bind fun t475 => ((colour_Mark.f kj2 t475).bind fun t478 => (l19_ColourWhere.l0 kj2 a0 y462 t478 0 0))) = some r := H
       have A17 := Aside0.mk A170
       clear A170
       replace H := Option.bind_eq_some_iff.mp H
       obtain ⟨t475, A180, H⟩ := H
       replace H : ((colour_Mark.f kj2 t475).bind fun t478 => (l19_ColourWhere.l0 kj2 a0 y462 t478 0 0)) = some r := H
       have A18 := Aside0.mk A180
       clear A180
       replace H := Option.bind_eq_some_iff.mp H
       obtain ⟨t478, A190, H⟩ := H
       replace H : (l19_ColourWhere.l0 kj2 a0 y462 t478 0 0) = some r := H
       have A19 := Aside0.mk A190
       clear A190
       have H' := Aside0.mk H
       clear H
       obtain ⟨Ao20, co20, eo20⟩ := Kd.R_slice HO_4.out
       subst eo20
       have p465 : 0 ≤ (a0 : Int) := of_decide_eq_true (by first | (with_reducible assumption) | assumption)
       have q465 : a0 < (y459.length : Int) := of_decide_eq_true (by first | (with_reducible assumption) | assumption)
       obtain ⟨ad465, e465, hx465_0⟩ := Kd.at_string (Kd.R_reads' HO_4.out).2.2 a0 p465 q465
       cases e465
       replace p465 := eq_true p465
       replace q465 := eq_true q465
       go_wp2_with (first | ((with_reducible refine gate_dst (N := 29) rfl ?_); (try (refine gate_guard (by rfl) ?_; dsimp only)); refine Kd.V_bytes _ 5 rfl (N' := 29) rfl 9 30 _ rfl (rdOf ByteArray.empty y459 a0) (by first | rfl | (go_simp; done)) Tryz.underlying9 Tryz.underlying30 Tryz.underlying5 (by first | assumption | exact of_decide_eq_true (by assumption) | decide | omega | (simp only [ByteArray.size_append, ByteArray.size_extract] at *; omega)) (ok := fun k_ => wc.heap.size ≤ k_) (Nat.le_refl _) (Below.refl _ _) (Nat.le_refl _) ?_; intro v467 w21 ho22 hb hg_ hnew_; clear hg_ hnew_; (first | rw [← Ny466.out] at ho22 | (simp only [Int.reduceToNat] at ho22; rw [← Ny466.out] at ho22)); have n0_ := Aside0.mk (Kd.R_below (rwP HO_4.out) hb); have n1_ := Aside0.mk (Kd.R_below (rwP HO_5.out) hb); have n2_ := Aside0.mk (Kd.V_lower (Kd.V_mono (ok' := fun k_ => some k_ ≠ (.slice (some ad465) y459.length co20 : Value).ownBlock ∧ some k_ ≠ (v463 : Value).ownBlock) ho22 (fun k_ hk_ => ⟨(Kd.fresh' (Kd.R_lt (rwP HO_4.out)) k_ hk_), (Kd.fresh' (Kd.R_lt (rwP HO_5.out)) k_ hk_)⟩)) (below_size (hbP0 HB.out))); have n3_ := Aside0.mk (below_step (hbP0 HB.out) hb); clear HO_4; clear HO_5; clear HB; have HO_4 := n0_; have HO_5 := n1_; have HO468 := n2_; have HB := n3_; clear n0_ n1_ n2_ n3_; clear hb ho22; obtain ⟨Ao23, co23, eo23⟩ := Kd.V_slice HO468.out; subst eo23) | ((with_reducible refine gate_callee (f := 8) rfl ?_); refine goesL_ (some 30) rfl rfl Tryz.func8 (by kernel_rfl) rfl #[.slice Ao23 y466.length co23] rfl agP ?_; (with_reducible refine (r13_Runes.calls kj2 _ _ y466 t469 _ ?side1 ?side2 A16.out).mono ?_); (case side1 => repeat (first | exact (Kd.V_reads' HO468.out).2.2 | (with_reducible refine Kd.C_alloc ?_ _) | (with_reducible refine Kd.C_drewN ?_ _) | (with_reducible refine Kd.C_drew ?_))); (case side2 => exact (Kd.V_reads' HO468.out).2.1); rintro e w24 ⟨v470, rfl, ho0, hb⟩; refine ⟨_, rfl, ?_⟩; have n0_ := Aside0.mk (Kd.R_below (rwP HO_4.out) hb); have n1_ := Aside0.mk (Kd.R_below (rwP HO_5.out) hb); have n2_ := Aside0.mk (Kd.V_elder' (by (with_reducible repeat (first | apply Kd.V_alloc | apply Kd.V_drewN | apply Kd.V_drew)); exact HO468.out) (Kd.R_base ho0) hb); have n3_ := Aside0.mk (Kd.R_lower ho0 (below_size (hbP0 HB.out))); have n4_ := Aside0.mk (below_step (hbP0 HB.out) hb); clear HO_4; clear HO_5; clear HO468; clear HB; have HO_4 := n0_; have HO_5 := n1_; have HO468 := n2_; have HO471 := n3_; have HB := n4_; clear n0_ n1_ n2_ n3_ n4_; (try clear hb); (try clear hb2); (try clear hk); (try clear hi); (try clear ho0); obtain ⟨Ao25, co25, eo25⟩ := Kd.R_slice HO471.out; subst eo25) | ((with_reducible refine gate_callee (f := 7) rfl ?_); refine goesL_ (some 31) rfl rfl Tryz.func7 (by kernel_rfl) rfl #[.slice Ao25 t469.length co25] rfl agP ?_; (with_reducible refine (r13_Clex.calls kj2 _ _ t469 t472 _ ?side1 ?side2 A17.out).mono ?_); (case side1 => repeat (first | exact (Kd.R_reads' HO471.out).2.2 | (with_reducible refine Kd.C_alloc ?_ _) | (with_reducible refine Kd.C_drewN ?_ _) | (with_reducible refine Kd.C_drew ?_))); (case side2 => exact (Kd.R_reads' HO471.out).2.1); rintro e w26 ⟨v473, rfl, ho0, hb⟩; refine ⟨_, rfl, ?_⟩; have n0_ := Aside0.mk (Kd.R_below (rwP HO_4.out) hb); have n1_ := Aside0.mk (Kd.R_below (rwP HO_5.out) hb); have n2_ := Aside0.mk (Kd.V_elder' (by (with_reducible repeat (first | apply Kd.V_alloc | apply Kd.V_drewN | apply Kd.V_drew)); exact HO468.out) (Kd.R_base ho0) hb); have n3_ := Aside0.mk (Kd.R_below (rwP HO471.out) hb); have n4_ := Aside0.mk (Kd.R_lower ho0 (below_size (hbP0 HB.out))); have n5_ := Aside0.mk (below_step (hbP0 HB.out) hb); clear HO_4; clear HO_5; clear HO468; clear HO471; clear HB; have HO_4 := n0_; have HO_5 := n1_; have HO468 := n2_; have HO471 := n3_; have HO474 := n4_; have HB := n5_; clear n0_ n1_ n2_ n3_ n4_ n5_; (try clear hb); (try clear hb2); (try clear hk); (try clear hi); (try clear ho0); obtain ⟨Ao27, co27, eo27⟩ := Kd.R_slice HO474.out; subst eo27) | ((with_reducible refine gate_callee (f := 6) rfl ?_); refine goesL_ (some 32) rfl rfl Tryz.func6 (by kernel_rfl) rfl #[.slice Ao27 t472.length co27] rfl agP ?_; (with_reducible refine (r17_Value.calls kj2 _ _ t472 t475 _ ?side1 ?side2 A18.out).mono ?_); (case side1 => repeat (first | exact (Kd.R_reads' HO474.out).2.2 | (with_reducible refine Kd.C_alloc ?_ _) | (with_reducible refine Kd.C_drewN ?_ _) | (with_reducible refine Kd.C_drew ?_))); (case side2 => exact (Kd.R_reads' HO474.out).2.1); rintro e w28 ⟨v476, rfl, ho0, hb⟩; refine ⟨_, rfl, ?_⟩; have n0_ := Aside0.mk (Kd.R_below (rwP HO_4.out) hb); have n1_ := Aside0.mk (Kd.R_below (rwP HO_5.out) hb); have n2_ := Aside0.mk (Kd.V_elder' (by (with_reducible repeat (first | apply Kd.V_alloc | apply Kd.V_drewN | apply Kd.V_drew)); exact HO468.out) (Kd.R_base ho0) hb); have n3_ := Aside0.mk (Kd.R_below (rwP HO471.out) hb); have n4_ := Aside0.mk (Kd.R_elder' (rwP HO474.out) (Kd.R_base ho0) hb); have n5_ := Aside0.mk (Kd.R_lower (Kd.R_new' ho0 (Kd.R_lt (rwP HO474.out))) (below_size (hbP0 HB.out))); have n6_ := Aside0.mk (below_step (hbP0 HB.out) hb); clear HO_4; clear HO_5; clear HO468; clear HO471; clear HO474; clear HB; have HO_4 := n0_; have HO_5 := n1_; have HO468 := n2_; have HO471 := n3_; have HO474 := n4_; have HO477 := n5_; have HB := n6_; clear n0_ n1_ n2_ n3_ n4_ n5_ n6_; (try clear hb); (try clear hb2); (try clear hk); (try clear hi); (try clear ho0); obtain ⟨Ao29, co29, eo29⟩ := Kd.R_slice HO477.out; subst eo29) | ((with_reducible refine gate_callee (f := 5) rfl ?_); refine goesL_ (some 33) rfl rfl Tryz.func5 (by kernel_rfl) rfl #[.slice Ao29 t475.length co29] rfl agP ?_; (with_reducible refine (colour_Mark.calls kj2 _ _ t475 t478 _ ?side1 ?side2 ?side3 A19.out).mono ?_); (case side1 => repeat (first | exact (Kd.R_reads' HO477.out).2.2 | (with_reducible refine Kd.C_alloc ?_ _) | (with_reducible refine Kd.C_drewN ?_ _) | (with_reducible refine Kd.C_drew ?_))); (case side2 => exact (Kd.R_reads' HO477.out).2.1); (case side3 => first | exact hL | exact LaidW.below hL (hbP0 HB.out) | (repeat (first | exact hL | apply LaidW.drewN | apply LaidW.drew))); rintro e w30 ⟨v479, rfl, ho0, hb⟩; refine ⟨_, rfl, ?_⟩; have n0_ := Aside0.mk (Kd.R_below (rwP HO_4.out) hb); have n1_ := Aside0.mk (Kd.R_below (rwP HO_5.out) hb); have n2_ := Aside0.mk (Kd.V_elder' (by (with_reducible repeat (first | apply Kd.V_alloc | apply Kd.V_drewN | apply Kd.V_drew)); exact HO468.out) (Kd.R_base ho0) hb); have n3_ := Aside0.mk (Kd.R_below (rwP HO471.out) hb); have n4_ := Aside0.mk (Kd.R_elder' (rwP HO474.out) (Kd.R_base ho0) hb); have n5_ := Aside0.mk (Kd.R_elder' (rwP HO477.out) (Kd.R_base ho0) hb); have n6_ := Aside0.mk (Kd.R_lower (Kd.R_new' (Kd.R_new' ho0 (Kd.R_lt (rwP HO474.out))) (Kd.R_lt (rwP HO477.out))) (below_size (hbP0 HB.out))); have n7_ := Aside0.mk (below_step (hbP0 HB.out) hb); clear HO_4; clear HO_5; clear HO468; clear HO471; clear HO474; clear HO477; clear HB; have HO_4 := n0_; have HO_5 := n1_; have HO468 := n2_; have HO471 := n3_; have HO474 := n4_; have HO477 := n5_; have HO480 := n6_; have HB := n7_; clear n0_ n1_ n2_ n3_ n4_ n5_ n6_ n7_; (try clear hb); (try clear hb2); (try clear hk); (try clear hi); (try clear ho0)))
       go_loopg [7, 8] kj2 (fun kq v7 v8 w' => ∃ (x7_2 : Int) (x8_2 : Int), v7 = .int .i64 x7_2 ∧ v8 = .int .i64 x8_2 ∧ Aside0 (l19_ColourWhere.l0 kq a0 y462 t478 x7_2 x8_2 = some r) ∧ Aside0 (kq ≤ kj2) ∧ Aside0 (Kd.R (Kd.int .i64) 3 w' w.heap.size (fun _ => True) v463 y462) ∧ Aside0 (Kd.R k35 35 w' w.heap.size (fun _ => True) v479 t478) ∧ Aside0 (Below w.heap.size w w'))
       case atStart => exact ⟨(0), (0), vqP, vqP, H', ⟨Nat.le_refl _⟩, ⟨rwP HO_5.out⟩, ⟨by (with_reducible repeat (first | apply Kd.R_alloc | apply Kd.R_drewN | apply Kd.R_drew)); exact Kd.R_mono HO480.out (fun _ hk => trivial)⟩, ⟨hbP0 HB.out⟩⟩
       case round =>
        clear H'
        obtain ⟨x7_2, x8_2, rfl, rfl, HA, HK2, HO_5, HO_6, HB⟩ := hrel
        cases gk with
        | zero => exact absurd HA.out (by simp [l19_ColourWhere.l0])
        | succ k2 =>
         have H := HA.out
         clear HA
         simp only [l19_ColourWhere.l0] at H
         by_cases c31 : x8_2 < (t478.length : Int)
         ·rw [if_pos c31] at H
          have c31b0 : decide (x8_2 < (t478.length : Int)) = true := decide_eq_true c31
          clear c31
          by_cases c32 : 0 ≤ x8_2
          ·rw [if_pos c32] at H
           have c32b0 : decide (0 ≤ x8_2) = true := decide_eq_true c32
           clear c32
           by_cases c33 : ((rd_T35 t478 x8_2).f0) = 26
           ·rw [if_pos c33] at H
            have c33b0 : (((rd_T35 t478 x8_2).f0) == 26) = true := beq_iff_eq.mpr c33
            have c33b1 : (((rd_T35 t478 x8_2).f0) != 26) = false := bne_eq_false_iff_eq.mpr c33
            clear c33
            have H' := Aside0.mk H
            clear H
            obtain ⟨Ao34, co34, eo34⟩ := Kd.R_slice HO_6.out
            subst eo34
            have p481 : 0 ≤ (x8_2 : Int) := of_decide_eq_true (by first | (with_reducible assumption) | assumption)
            have q481 : x8_2 < (t478.length : Int) := of_decide_eq_true (by first | (with_reducible assumption) | assumption)
            obtain ⟨ad481, e481, hx481_0, hx481_1, hx481_2, hx481_3, hx481_4, hx481_5, hx481_6, hx481_7, hx481_8, hx481_9, hx481_10, hx481_11, hx481_12⟩ := at_T35 (Kd.R_reads' HO_6.out).2.2 x8_2 p481 q481
            cases e481
            replace p481 := eq_true p481
            replace q481 := eq_true q481
            go_wp2
            go_roundg k2
            case measure => have := HJ2.out; have := HK2.out; omega
            case rel => exact ⟨(wrap64 (x7_2 + 1)), (wrap64 (x8_2 + 1)), vqP, vqP, H', ⟨by have := HJ2.out; have := HK2.out; omega⟩, ⟨rwP HO_5.out⟩, ⟨rwP HO_6.out⟩, ⟨hbP0 HB.out⟩⟩
           ·rw [if_neg c33] at H
            have c33b0 : (((rd_T35 t478 x8_2).f0) == 26) = false := beq_eq_false_iff_ne.mpr c33
            have c33b1 : (((rd_T35 t478 x8_2).f0) != 26) = true := bne_iff_ne.mpr c33
            have H' := Aside0.mk H
            clear H
            obtain ⟨Ao35, co35, eo35⟩ := Kd.R_slice HO_6.out
            subst eo35
            have p481 : 0 ≤ (x8_2 : Int) := of_decide_eq_true (by first | (with_reducible assumption) | assumption)
            have q481 : x8_2 < (t478.length : Int) := of_decide_eq_true (by first | (with_reducible assumption) | assumption)
            obtain ⟨ad481, e481, hx481_0, hx481_1, hx481_2, hx481_3, hx481_4, hx481_5, hx481_6, hx481_7, hx481_8, hx481_9, hx481_10, hx481_11, hx481_12⟩ := at_T35 (Kd.R_reads' HO_6.out).2.2 x8_2 p481 q481
            cases e481
            replace p481 := eq_true p481
            replace q481 := eq_true q481
            go_wp2
            go_roundg k2
            case measure => have := HJ2.out; have := HK2.out; omega
            case rel => exact ⟨(x7_2), (wrap64 (x8_2 + 1)), vqP, vqP, H', ⟨by have := HJ2.out; have := HK2.out; omega⟩, ⟨rwP HO_5.out⟩, ⟨rwP HO_6.out⟩, ⟨hbP0 HB.out⟩⟩
          ·rw [if_neg c32] at H
           exact absurd H (by simp)
         ·rw [if_neg c31] at H
          have c31b0 : decide (x8_2 < (t478.length : Int)) = false := decide_eq_false c31
          clear c31
          by_cases c36 : 0 ≤ a0
          ·rw [if_pos c36] at H
           have c36b0 : decide (0 ≤ a0) = true := decide_eq_true c36
           clear c36
           by_cases c37 : a0 < (y462.length : Int)
           ·rw [if_pos c37] at H
            have c37b0 : decide (a0 < (y462.length : Int)) = true := decide_eq_true c37
            clear c37
            obtain rfl := Option.some.inj H
            obtain ⟨Ao38, co38, eo38⟩ := Kd.R_slice HO_6.out
            subst eo38
            obtain ⟨Ao39, co39, eo39⟩ := Kd.R_slice HO_5.out
            subst eo39
            have p482 : 0 ≤ (a0 : Int) := of_decide_eq_true (by first | (with_reducible assumption) | assumption)
            have q482 : a0 < (y462.length : Int) := of_decide_eq_true (by first | (with_reducible assumption) | assumption)
            obtain ⟨ad482, e482, hx482_0⟩ := Kd.at_int (Kd.R_reads' HO_5.out).2.2 a0 p482 q482
            cases e482
            replace p482 := eq_true p482
            replace q482 := eq_true q482
            go_wp2
            go_ret
            exact ⟨by first | rfl | (simp [errW_none, errW_some] <;> rfl) | (simp [*, errW_none, errW_some] <;> rfl), hbP0 HB.out⟩
           ·rw [if_neg c37] at H
            exact absurd H (by simp)
          ·rw [if_neg c36] at H
           exact absurd H (by simp)
      ·rw [if_neg c15] at H
       exact absurd H (by simp)
     ·rw [if_neg c14] at H
      exact absurd H (by simp)
    ·rw [if_neg c13] at H
     exact absurd H (by simp)
def l19_ColourWhere.Pure : Prop := ∀ (a0 : Int), (Lit.int .i64 a0).wf = true → ∃ k, l19_ColourWhere.f k a0 = some true
theorem l19_ColourWhere.walk (P : l19_ColourWhere.Pure) (a0 : Int) (w : World) (w0 : (Lit.int .i64 a0).wf = true) (hL : LaidW w) :
  Calls Tryz.prog 3 #[.int .i64 a0] w fun e w' => e = .returned (.bool true) ∧ Below w.heap.size w w' := by
 obtain ⟨k, h⟩ := P a0 w0
 refine (l19_ColourWhere.calls k a0 true w hL ⟨rfl⟩ h).mono ?_
 rintro e w' ⟨rfl, hd⟩
 exact ⟨rfl, hd⟩
end Go.Proofs.YthonpnaccjajcaaGreatDoor.P
