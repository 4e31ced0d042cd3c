-- printed by xprint.py (a program of this session's, over the kit's print); Lean checks it
import Derived.Test.YthonpnaccjajcaaDoorColourBackPx0
import Derived.Test.YthonpnaccjajcaaDoorColourBackPx5
import Derived.Test.YthonpnaccjajcaaDoorColourBackPx6
import Derived.Test.YthonpnaccjajcaaDoorColourBackPx7
import Derived.Test.YthonpnaccjajcaaDoorColourBackPx10
import Derived.Test.YthonpnaccjajcaaDoorColourBackPx11
import Derived.Test.YthonpnaccjajcaaDoorColourBackPx14
import Derived.Test.YthonpnaccjajcaaDoorColourBackPx15
import Derived.Test.YthonpnaccjajcaaDoorColourBackPx16
import Derived.Test.YthonpnaccjajcaaDoorColourBackPx17
namespace Go.Proofs.YthonpnaccjajcaaDoor.P
open Go.RowKit Go.Proofs.YthonpnaccjajcaaDoorW.PrintWords Go.Proofs.YthonpnaccjajcaaDoorW.PrintLast Go.Proofs.YthonpnaccjajcaaDoorW.PrintMore Go.Proofs.YthonpnaccjajcaaDoorX
attribute [local go_sem] max2_int min2_int max_two min_two max_three min_three max_four min_four   -- for this text's walks alone
set_option linter.unusedVariables false
set_option linter.unusedSimpArgs false
mutual
def r13_one.j4 : Nat → Int → Int → ByteArray → Option (Int × ByteArray × ByteArray × Bool × ByteArray × ByteArray × Bool × Bool × Int × Int × Int × Int × Int × Int)
 | 0, _, _, _ => none
 | k + 1, x1, x6, x7 => r13_one.l2 k x1 x6 x7 0
def r13_one.l2 : Nat → Int → Int → ByteArray → Int → Option (Int × ByteArray × ByteArray × Bool × ByteArray × ByteArray × Bool × Bool × Int × Int × Int × Int × Int × Int)
 | 0, _, _, _, _ => none
 | k + 1, x1, x6, x7, x16 => if x16 < (x7.size : Int) then (if 0 ≤ x16 then (if (wrap64 (bt x7 x16)) = x6 then (some (wrap64 (16 + x16), (⟨#[]⟩ : ByteArray), (⟨#[]⟩ : ByteArray), false, (⟨#[]⟩ : ByteArray), (⟨#[]⟩ : ByteArray), false, false, 0, 0, 0, 0, 0, wrap64 (x1 + 1))) else (r13_one.l2 k x1 x6 x7 (wrap64 (x16 + 1)))) else (none)) else (none)
def r13_one.l0 : Nat → List (S55) → Int → Option (Int × ByteArray × ByteArray × Bool × ByteArray × ByteArray × Bool × Bool × Int × Int × Int × Int × Int × Int)
 | 0, _, _ => none
 | k + 1, x0, x8 => if x8 < (x0.length : Int) then ((r13_follows.f k x0 x8 (⟨#[42, 47]⟩ : ByteArray)).bind fun t186 => (if t186 = true then (if x8 ≥ (x0.length : Int) then (none) else (none)) else (r13_one.l0 k x0 (wrap64 (x8 + 1))))) else (if x8 ≥ (x0.length : Int) then (none) else (none))
def r13_one.l1 : Nat → List (S55) → Int → Int → Option (Int × ByteArray × ByteArray × Bool × ByteArray × ByteArray × Bool × Bool × Int × Int × Int × Int × Int × Int)
 | 0, _, _, _ => none
 | k + 1, x0, x6, x10 => (r13_at.f x0 x10).bind fun t188 => ((r13_blank.f t188).bind fun t189 => (if t189 = true then (r13_one.l1 k x0 x6 (wrap64 (x10 + 1))) else (if x6 = 10 then (some (13, (⟨#[10]⟩ : ByteArray), (⟨#[]⟩ : ByteArray), false, (⟨#[]⟩ : ByteArray), (⟨#[]⟩ : ByteArray), false, false, 0, 0, 0, 0, 0, x10)) else (some (13, (⟨#[32]⟩ : ByteArray), (⟨#[]⟩ : ByteArray), false, (⟨#[]⟩ : ByteArray), (⟨#[]⟩ : ByteArray), false, false, 0, 0, 0, 0, 0, x10)))))
def r13_one.j2 : Nat → List (S55) → Int → Int → ByteArray → Bool → Option (Int × ByteArray × ByteArray × Bool × ByteArray × ByteArray × Bool × Bool × Int × Int × Int × Int × Int × Int)
 | 0, _, _, _, _, _ => none
 | k + 1, x0, x1, x6, x7, x72 => if x72 = true then (none) else (if x6 = 35 then ((r13_at.f x0 (wrap64 (x1 + 1))).bind fun t191 => ((r13_In.f t191).bind fun t192 => (if t192 = true then (r13_one.j3 k x0 x1 x6 x7 true) else ((r13_escape.f x0 (wrap64 (x1 + 1))).bind fun t193 => (r13_one.j3 k x0 x1 x6 x7 t193))))) else (r13_one.j3 k x0 x1 x6 x7 false))
def r13_one.j3 : Nat → List (S55) → Int → Int → ByteArray → Bool → Option (Int × ByteArray × ByteArray × Bool × ByteArray × ByteArray × Bool × Bool × Int × Int × Int × Int × Int × Int)
 | 0, _, _, _, _, _ => none
 | k + 1, x0, x1, x6, x7, x84 => if x84 = true then ((r13_Take.f k x0 (wrap64 (x1 + 1))).bind fun bt194 => ((r13_Begins.f k x0 (wrap64 (x1 + 1))).bind fun t196 => (some (4, bt194.1, (⟨#[]⟩ : ByteArray), false, (⟨#[]⟩ : ByteArray), (⟨#[]⟩ : ByteArray), t196, false, 0, 0, 0, 0, 0, bt194.2)))) else ((r13_numeral.f k x0 x1).bind fun t197 => (if t197 = true then (none) else ((r13_follows.f k x0 x1 (⟨#[45, 45, 62]⟩ : ByteArray)).bind fun t198 => (if t198 = true then (some (15, (⟨#[]⟩ : ByteArray), (⟨#[]⟩ : ByteArray), false, (⟨#[]⟩ : ByteArray), (⟨#[]⟩ : ByteArray), false, false, 0, 0, 0, 0, 0, wrap64 (x1 + 3))) else ((r13_follows.f k x0 x1 (⟨#[60, 33, 45, 45]⟩ : ByteArray)).bind fun t199 => (if t199 = true then (some (14, (⟨#[]⟩ : ByteArray), (⟨#[]⟩ : ByteArray), false, (⟨#[]⟩ : ByteArray), (⟨#[]⟩ : ByteArray), false, false, 0, 0, 0, 0, 0, wrap64 (x1 + 4))) else ((r13_Begins.f k x0 x1).bind fun t200 => (if t200 = true then ((r13_named.f k x0 x1).bind fun bt201 => (some (bt201.1, bt201.2.1, bt201.2.2.1, bt201.2.2.2.1, bt201.2.2.2.2.1, bt201.2.2.2.2.2.1, bt201.2.2.2.2.2.2.1, bt201.2.2.2.2.2.2.2.1, bt201.2.2.2.2.2.2.2.2.1, bt201.2.2.2.2.2.2.2.2.2.1, bt201.2.2.2.2.2.2.2.2.2.2.1, bt201.2.2.2.2.2.2.2.2.2.2.2.1, bt201.2.2.2.2.2.2.2.2.2.2.2.2.1, bt201.2.2.2.2.2.2.2.2.2.2.2.2.2))) else (if x6 = 64 then ((r13_Begins.f k x0 (wrap64 (x1 + 1))).bind fun t215 => (if t215 = true then ((r13_Take.f k x0 (wrap64 (x1 + 1))).bind fun bt216 => (some (3, bt216.1, (⟨#[]⟩ : ByteArray), false, (⟨#[]⟩ : ByteArray), (⟨#[]⟩ : ByteArray), false, false, 0, 0, 0, 0, 0, bt216.2))) else (r13_one.j4 k x1 x6 x7))) else (r13_one.j4 k x1 x6 x7))))))))))
end
def r13_one.f (k : Nat) (l0 : List (S55)) (a1 : Int) : Option (Int × ByteArray × ByteArray × Bool × ByteArray × ByteArray × Bool × Bool × Int × Int × Int × Int × Int × Int) := if 0 ≤ a1 then (if a1 < (l0.length : Int) then ((r13_follows.f k l0 a1 (⟨#[47, 42]⟩ : ByteArray)).bind fun t185 => (if t185 = true then (r13_one.l0 k l0 (wrap64 (a1 + 2))) else ((r13_blank.f ((rd_T55 l0 a1).f0)).bind fun t187 => (if t187 = true then (r13_one.l1 k l0 ((rd_T55 l0 a1).f0) a1) else (if ((rd_T55 l0 a1).f0) = 34 then (r13_one.j2 k l0 a1 ((rd_T55 l0 a1).f0) (⟨#[58, 59, 44, 123, 125, 40, 41, 91, 93]⟩ : ByteArray) true) else (r13_one.j2 k l0 a1 ((rd_T55 l0 a1).f0) (⟨#[58, 59, 44, 123, 125, 40, 41, 91, 93]⟩ : ByteArray) (((rd_T55 l0 a1).f0) == 39))))))) else (none)) else (none)
theorem r13_one.mono_l : ∀ k, (∀ y0 y1 y2, LeO (r13_one.j4 k y0 y1 y2) (r13_one.j4 (k + 1) y0 y1 y2)) ∧ (∀ y0 y1 y2 y3, LeO (r13_one.l2 k y0 y1 y2 y3) (r13_one.l2 (k + 1) y0 y1 y2 y3)) ∧ (∀ y0 y1, LeO (r13_one.l0 k y0 y1) (r13_one.l0 (k + 1) y0 y1)) ∧ (∀ y0 y1 y2, LeO (r13_one.l1 k y0 y1 y2) (r13_one.l1 (k + 1) y0 y1 y2)) ∧ (∀ y0 y1 y2 y3 y4, LeO (r13_one.j2 k y0 y1 y2 y3 y4) (r13_one.j2 (k + 1) y0 y1 y2 y3 y4)) ∧ (∀ y0 y1 y2 y3 y4, LeO (r13_one.j3 k y0 y1 y2 y3 y4) (r13_one.j3 (k + 1) y0 y1 y2 y3 y4))
 | 0 => ⟨fun _ _ _ r h => by simp [r13_one.j4] at h, fun _ _ _ _ r h => by simp [r13_one.l2] at h, fun _ _ r h => by simp [r13_one.l0] at h, fun _ _ _ r h => by simp [r13_one.l1] at h, fun _ _ _ _ _ r h => by simp [r13_one.j2] at h, fun _ _ _ _ _ r h => by simp [r13_one.j3] at h⟩
 | k + 1 => by
  obtain ⟨ih0, ih1, ih2, ih3, ih4, ih5⟩ := r13_one.mono_l k
  refine ⟨?_, ?_, ?_, ?_, ?_, ?_⟩
  ·intro y0 y1 y2
   unfold r13_one.j4
   repeat' first
   | (with_reducible exact ih0 _ _ _)
   | (with_reducible exact ih1 _ _ _ _)
   | (with_reducible exact ih2 _ _)
   | (with_reducible exact ih3 _ _ _)
   | (with_reducible exact ih4 _ _ _ _ _)
   | (with_reducible exact ih5 _ _ _ _ _)
   | (with_reducible exact r13_Begins.mono _ _ _)
   | (with_reducible exact r13_Take.mono _ _ _)
   | (with_reducible exact r13_follows.mono _ _ _ _)
   | (with_reducible exact r13_named.mono _ _ _)
   | (with_reducible exact r13_numeral.mono _ _ _)
   | (with_reducible exact LeO.refl _)
   | (with_reducible exact LeO.none _)
   | (with_reducible refine LeO.ite ?_ ?_)
   | (with_reducible refine LeO.bind ?_ (fun _ => ?_))
   | exact ih0 _ _ _
   | exact ih1 _ _ _ _
   | exact ih2 _ _
   | exact ih3 _ _ _
   | exact ih4 _ _ _ _ _
   | exact ih5 _ _ _ _ _
   | exact r13_Begins.mono _ _ _
   | exact r13_Take.mono _ _ _
   | exact r13_follows.mono _ _ _ _
   | exact r13_named.mono _ _ _
   | exact r13_numeral.mono _ _ _
   | exact LeO.none _
   | refine LeO.ite ?_ ?_
   | refine LeO.bind ?_ (fun _ => ?_)
  ·intro y0 y1 y2 y3
   unfold r13_one.l2
   repeat' first
   | (with_reducible exact ih0 _ _ _)
   | (with_reducible exact ih1 _ _ _ _)
   | (with_reducible exact ih2 _ _)
   | (with_reducible exact ih3 _ _ _)
   | (with_reducible exact ih4 _ _ _ _ _)
   | (with_reducible exact ih5 _ _ _ _ _)
   | (with_reducible exact r13_Begins.mono _ _ _)
   | (with_reducible exact r13_Take.mono _ _ _)
   | (with_reducible exact r13_follows.mono _ _ _ _)
   | (with_reducible exact r13_named.mono _ _ _)
   | (with_reducible exact r13_numeral.mono _ _ _)
   | (with_reducible exact LeO.refl _)
   | (with_reducible exact LeO.none _)
   | (with_reducible refine LeO.ite ?_ ?_)
   | (with_reducible refine LeO.bind ?_ (fun _ => ?_))
   | exact ih0 _ _ _
   | exact ih1 _ _ _ _
   | exact ih2 _ _
   | exact ih3 _ _ _
   | exact ih4 _ _ _ _ _
   | exact ih5 _ _ _ _ _
   | exact r13_Begins.mono _ _ _
   | exact r13_Take.mono _ _ _
   | exact r13_follows.mono _ _ _ _
   | exact r13_named.mono _ _ _
   | exact r13_numeral.mono _ _ _
   | exact LeO.none _
   | refine LeO.ite ?_ ?_
   | refine LeO.bind ?_ (fun _ => ?_)
  ·intro y0 y1
   unfold r13_one.l0
   repeat' first
   | (with_reducible exact ih0 _ _ _)
   | (with_reducible exact ih1 _ _ _ _)
   | (with_reducible exact ih2 _ _)
   | (with_reducible exact ih3 _ _ _)
   | (with_reducible exact ih4 _ _ _ _ _)
   | (with_reducible exact ih5 _ _ _ _ _)
   | (with_reducible exact r13_Begins.mono _ _ _)
   | (with_reducible exact r13_Take.mono _ _ _)
   | (with_reducible exact r13_follows.mono _ _ _ _)
   | (with_reducible exact r13_named.mono _ _ _)
   | (with_reducible exact r13_numeral.mono _ _ _)
   | (with_reducible exact LeO.refl _)
   | (with_reducible exact LeO.none _)
   | (with_reducible refine LeO.ite ?_ ?_)
   | (with_reducible refine LeO.bind ?_ (fun _ => ?_))
   | exact ih0 _ _ _
   | exact ih1 _ _ _ _
   | exact ih2 _ _
   | exact ih3 _ _ _
   | exact ih4 _ _ _ _ _
   | exact ih5 _ _ _ _ _
   | exact r13_Begins.mono _ _ _
   | exact r13_Take.mono _ _ _
   | exact r13_follows.mono _ _ _ _
   | exact r13_named.mono _ _ _
   | exact r13_numeral.mono _ _ _
   | exact LeO.none _
   | refine LeO.ite ?_ ?_
   | refine LeO.bind ?_ (fun _ => ?_)
  ·intro y0 y1 y2
   unfold r13_one.l1
   repeat' first
   | (with_reducible exact ih0 _ _ _)
   | (with_reducible exact ih1 _ _ _ _)
   | (with_reducible exact ih2 _ _)
   | (with_reducible exact ih3 _ _ _)
   | (with_reducible exact ih4 _ _ _ _ _)
   | (with_reducible exact ih5 _ _ _ _ _)
   | (with_reducible exact r13_Begins.mono _ _ _)
   | (with_reducible exact r13_Take.mono _ _ _)
   | (with_reducible exact r13_follows.mono _ _ _ _)
   | (with_reducible exact r13_named.mono _ _ _)
   | (with_reducible exact r13_numeral.mono _ _ _)
   | (with_reducible exact LeO.refl _)
   | (with_reducible exact LeO.none _)
   | (with_reducible refine LeO.ite ?_ ?_)
   | (with_reducible refine LeO.bind ?_ (fun _ => ?_))
   | exact ih0 _ _ _
   | exact ih1 _ _ _ _
   | exact ih2 _ _
   | exact ih3 _ _ _
   | exact ih4 _ _ _ _ _
   | exact ih5 _ _ _ _ _
   | exact r13_Begins.mono _ _ _
   | exact r13_Take.mono _ _ _
   | exact r13_follows.mono _ _ _ _
   | exact r13_named.mono _ _ _
   | exact r13_numeral.mono _ _ _
   | exact LeO.none _
   | refine LeO.ite ?_ ?_
   | refine LeO.bind ?_ (fun _ => ?_)
  ·intro y0 y1 y2 y3 y4
   unfold r13_one.j2
   repeat' first
   | (with_reducible exact ih0 _ _ _)
   | (with_reducible exact ih1 _ _ _ _)
   | (with_reducible exact ih2 _ _)
   | (with_reducible exact ih3 _ _ _)
   | (with_reducible exact ih4 _ _ _ _ _)
   | (with_reducible exact ih5 _ _ _ _ _)
   | (with_reducible exact r13_Begins.mono _ _ _)
   | (with_reducible exact r13_Take.mono _ _ _)
   | (with_reducible exact r13_follows.mono _ _ _ _)
   | (with_reducible exact r13_named.mono _ _ _)
   | (with_reducible exact r13_numeral.mono _ _ _)
   | (with_reducible exact LeO.refl _)
   | (with_reducible exact LeO.none _)
   | (with_reducible refine LeO.ite ?_ ?_)
   | (with_reducible refine LeO.bind ?_ (fun _ => ?_))
   | exact ih0 _ _ _
   | exact ih1 _ _ _ _
   | exact ih2 _ _
   | exact ih3 _ _ _
   | exact ih4 _ _ _ _ _
   | exact ih5 _ _ _ _ _
   | exact r13_Begins.mono _ _ _
   | exact r13_Take.mono _ _ _
   | exact r13_follows.mono _ _ _ _
   | exact r13_named.mono _ _ _
   | exact r13_numeral.mono _ _ _
   | exact LeO.none _
   | refine LeO.ite ?_ ?_
   | refine LeO.bind ?_ (fun _ => ?_)
  ·intro y0 y1 y2 y3 y4
   unfold r13_one.j3
   repeat' first
   | (with_reducible exact ih0 _ _ _)
   | (with_reducible exact ih1 _ _ _ _)
   | (with_reducible exact ih2 _ _)
   | (with_reducible exact ih3 _ _ _)
   | (with_reducible exact ih4 _ _ _ _ _)
   | (with_reducible exact ih5 _ _ _ _ _)
   | (with_reducible exact r13_Begins.mono _ _ _)
   | (with_reducible exact r13_Take.mono _ _ _)
   | (with_reducible exact r13_follows.mono _ _ _ _)
   | (with_reducible exact r13_named.mono _ _ _)
   | (with_reducible exact r13_numeral.mono _ _ _)
   | (with_reducible exact LeO.refl _)
   | (with_reducible exact LeO.none _)
   | (with_reducible refine LeO.ite ?_ ?_)
   | (with_reducible refine LeO.bind ?_ (fun _ => ?_))
   | exact ih0 _ _ _
   | exact ih1 _ _ _ _
   | exact ih2 _ _
   | exact ih3 _ _ _
   | exact ih4 _ _ _ _ _
   | exact ih5 _ _ _ _ _
   | exact r13_Begins.mono _ _ _
   | exact r13_Take.mono _ _ _
   | exact r13_follows.mono _ _ _ _
   | exact r13_named.mono _ _ _
   | exact r13_numeral.mono _ _ _
   | exact LeO.none _
   | refine LeO.ite ?_ ?_
   | refine LeO.bind ?_ (fun _ => ?_)
theorem r13_one.mono : ∀ a0 a1 k, LeO (r13_one.f k a0 a1) (r13_one.f (k + 1) a0 a1) := by
 intro a0 a1 k
 obtain ⟨ih0, ih1, ih2, ih3, ih4, ih5⟩ := r13_one.mono_l k
 unfold r13_one.f
 repeat' first
   | (with_reducible exact ih0 _ _ _)
   | (with_reducible exact ih1 _ _ _ _)
   | (with_reducible exact ih2 _ _)
   | (with_reducible exact ih3 _ _ _)
   | (with_reducible exact ih4 _ _ _ _ _)
   | (with_reducible exact ih5 _ _ _ _ _)
   | (with_reducible exact r13_Begins.mono _ _ _)
   | (with_reducible exact r13_Take.mono _ _ _)
   | (with_reducible exact r13_follows.mono _ _ _ _)
   | (with_reducible exact r13_named.mono _ _ _)
   | (with_reducible exact r13_numeral.mono _ _ _)
   | (with_reducible exact LeO.refl _)
   | (with_reducible exact LeO.none _)
   | (with_reducible refine LeO.ite ?_ ?_)
   | (with_reducible refine LeO.bind ?_ (fun _ => ?_))
   | exact ih0 _ _ _
   | exact ih1 _ _ _ _
   | exact ih2 _ _
   | exact ih3 _ _ _
   | exact ih4 _ _ _ _ _
   | exact ih5 _ _ _ _ _
   | exact r13_Begins.mono _ _ _
   | exact r13_Take.mono _ _ _
   | exact r13_follows.mono _ _ _ _
   | exact r13_named.mono _ _ _
   | exact r13_numeral.mono _ _ _
   | exact LeO.none _
   | refine LeO.ite ?_ ?_
   | refine LeO.bind ?_ (fun _ => ?_)
set_option maxHeartbeats 8000000 in
set_option maxRecDepth 100000 in
theorem r13_one.calls (k : Nat) (A0 : Option Addr) (c0 : Nat) (l0 : List (S55)) (a1 : Int) (r1 : Int) (r2 : ByteArray) (r3 : ByteArray) (r4 : Bool) (r5 : ByteArray) (r6 : ByteArray) (r7 : Bool) (r8 : Bool) (r9 : Int) (r10 : Int) (r11 : Int) (r12 : Int) (r13 : Int) (r14 : Int) (w : World) (hr0 : Kd.C k55 w A0 l0.length l0) (hc0 : l0.length ≤ c0) (h : r13_one.f k l0 a1 = some (r1, r2, r3, r4, r5, r6, r7, r8, r9, r10, r11, r12, r13, r14)) :
  Calls Tryd.prog 29 #[.slice A0 l0.length c0, .int .i64 a1] w fun e w' => e = .returned (.tuple #[.agg #[.int .i64 r1, .string r2, .string r3, .bool r4, .string r5, .string r6, .bool r7, .bool r8, .int .i64 r9, .int .i64 r10, .int .i64 r11, .int .i64 r12, .int .i64 r13], .int .i64 r14]) ∧ Below w.heap.size w w' := by
 have hu39 := Tryd.underlying39
 have HR0 := Aside0.mk hr0
 have HC0 := Aside0.mk hc0
 clear hr0 hc0
 have HB := Aside0.mk (Below.refl w.heap.size w)
 have H : (if 0 ≤ a1 then (if a1 < (l0.length : Int) then ((r13_follows.f k l0 a1 (⟨#[47, 42]⟩ : ByteArray)).bind fun t185 => (if t185 = true then (r13_one.l0 k l0 (wrap64 (a1 + 2))) else ((r13_blank.f ((rd_T55 l0 a1).f0)).bind fun t187 => (if t187 = true then (r13_one.l1 k l0 ((rd_T55 l0 a1).f0) a1) else (if ((rd_T55 l0 a1).f0) = 34 then (r13_one.j2 k l0 a1 ((rd_T55 l0 a1).f0) (⟨#[58, 59, 44, 123, 125, 40, 41, 91, 93]⟩ : ByteArray) true) else (r13_one.j2 k l0 a1 ((rd_T55 l0 a1).f0) (⟨#[58, 59, 44, 123, 125, 40, 41, 91, 93]⟩ : ByteArray) (((rd_T55 l0 a1).f0) == 39))))))) else (none)) else (none)) = some (r1, r2, r3, r4, r5, r6, r7, r8, r9, r10, r11, r12, r13, r14) := h
 clear h
 by_cases c3 : 0 ≤ a1
 ·rw [if_pos c3] at H
  have c3b0 : decide (0 ≤ a1) = true := decide_eq_true c3
  clear c3
  by_cases c4 : a1 < (l0.length : Int)
  ·rw [if_pos c4] at H
   have c4b0 : decide (a1 < (l0.length : Int)) = true := decide_eq_true c4
   clear c4
   have HC5 := Aside0.mk H
   clear H
   go_enter Tryd.func29, Tryd.ntmps29
   go_upto_block 0 with (first | ((with_reducible refine gate_dst (N := 4) rfl ?_); refine box_event ?hg (N := 4) ?hd (cs := #[.int .i64 0, .string (⟨#[]⟩ : ByteArray), .string (⟨#[]⟩ : ByteArray), .bool false, .string (⟨#[]⟩ : ByteArray), .string (⟨#[]⟩ : ByteArray), .bool false, .bool false, .int .i64 0, .int .i64 0, .int .i64 0, .int .i64 0, .int .i64 0]) (t := 39) ?hr ?_; (case hd => rfl); (case hg => rfl); (case hr => first | (go_simp; done) | (go_simp; rfl)); intro gb183 hg w6 hbox hb; have n0_ := Aside0.mk (below_step (by repeat (first | (with_reducible first | exact HB.out | apply below_alloc | apply pw_below_drewN | apply below_drew1) | exact HB.out)) hb); have n1_ := Aside0.mk (hbox); have n2_ := Aside0.mk ((by rw [hg]; exact (below_size (by repeat (first | (with_reducible first | exact HB.out | apply below_alloc | apply pw_below_drewN | apply below_drew1) | exact HB.out))) : w.heap.size ≤ gb183)); have n3_ := Aside0.mk ((by rw [hg]; exact (below_size (by repeat (first | (with_reducible first | exact HB.out | apply below_alloc | apply pw_below_drewN | apply below_drew1) | exact HB.out))) : w.heap.size ≤ gb183)); clear HB; have HB := n0_; have BK183 := n1_; have GW183 := n2_; have GE183 := n3_; clear n0_ n1_ n2_ n3_; clear hb hbox hg; have p184 : 0 ≤ (a1 : Int) := of_decide_eq_true (by first | (with_reducible assumption) | assumption); have q184 : a1 < (l0.length : Int) := of_decide_eq_true (by first | (with_reducible assumption) | assumption); obtain ⟨ad184, e184, hx184_0, hx184_1⟩ := at_T55 HR0.out a1 p184 q184; cases e184; replace hx184_0 := (HB.out.cell (World.block_lt_of_cell? w _ hx184_0)).trans hx184_0; replace hx184_1 := (HB.out.cell (World.block_lt_of_cell? w _ hx184_1)).trans hx184_1; replace p184 := eq_true p184; replace q184 := eq_true q184))
   (try simp only [Act.put, List.setIfInBounds_toArray, List.set_cons_zero, List.set_cons_succ])
   go_cut [] (fun wc => ∃ (kq : Nat) (x184000_4 : Int) (x184001_4 : ByteArray) (x184002_4 : ByteArray) (x184003_4 : Bool) (x184004_4 : ByteArray) (x184005_4 : ByteArray) (x184006_4 : Bool) (x184007_4 : Bool) (x184008_4 : Int) (x184009_4 : Int) (x184010_4 : Int) (x184011_4 : Int) (x184012_4 : Int), Aside0 (r13_one.j4 kq a1 ((rd_T55 l0 a1).f0) (⟨#[58, 59, 44, 123, 125, 40, 41, 91, 93]⟩ : ByteArray) = some (r1, r2, r3, r4, r5, r6, r7, r8, r9, r10, r11, r12, r13, r14)) ∧ Aside0 (kq ≤ k) ∧ Aside0 (wc.heap[gb183]? = some (.cells #[.int .i64 x184000_4, .string x184001_4, .string x184002_4, .bool x184003_4, .string x184004_4, .string x184005_4, .bool x184006_4, .bool x184007_4, .int .i64 x184008_4, .int .i64 x184009_4, .int .i64 x184010_4, .int .i64 x184011_4, .int .i64 x184012_4] 39 (0, 0))) ∧ Aside0 (Below w.heap.size w wc))
   case first => as_aux_lemma =>
    have H := HC5.out
    clear HC5
    replace H := Option.bind_eq_some_iff.mp H
    obtain ⟨t185, A70, H⟩ := H
    replace H : (if t185 = true then (r13_one.l0 k l0 (wrap64 (a1 + 2))) else ((r13_blank.f ((rd_T55 l0 a1).f0)).bind fun t187 => (if t187 = true then (r13_one.l1 k l0 ((rd_T55 l0 a1).f0) a1) else (if ((rd_T55 l0 a1).f0) = 34 then (r13_one.j2 k l0 a1 ((rd_T55 l0 a1).f0) (⟨#[58, 59, 44, 123, 125, 40, 41, 91, 93]⟩ : ByteArray) true) else (r13_one.j2 k l0 a1 ((rd_T55 l0 a1).f0) (⟨#[58, 59, 44, 123, 125, 40, 41, 91, 93]⟩ : ByteArray) (((rd_T55 l0 a1).f0) == 39)))))) = some (r1, r2, r3, r4, r5, r6, r7, r8, r9, r10, r11, r12, r13, r14) := H
    have A7 := Aside0.mk A70
    clear A70
    by_cases c8 : t185 = true
    ·subst c8
     have H1 : (r13_one.l0 k l0 (wrap64 (a1 + 2))) = some (r1, r2, r3, r4, r5, r6, r7, r8, r9, r10, r11, r12, r13, r14) := by rw [if_pos rfl] at H; exact H
     clear H
     have H := H1
     clear H1
     have H' := Aside0.mk H
     clear H
     go_wp2_with (first | ((with_reducible refine gate_callee (f := 50) rfl ?_); refine goesL_ (some 25) rfl rfl Tryd.func50 (by kernel_rfl) rfl #[.slice (some ad184) l0.length c0, .int .i64 a1, .string (⟨#[47, 42]⟩ : ByteArray)] rfl (by (try simp only [List.map_toArray, List.map_cons, List.map_nil]); first | done | rfl | (simp only [List.length_drop, List.length_take]; rfl)) ?_; (with_reducible refine (r13_follows.calls k _ _ l0 a1 (⟨#[47, 42]⟩ : ByteArray) true _ ?side1 ?side2 A7.out).mono ?_); (case side1 => repeat (first | exact (Kd.C_below HR0.out HB.out) | (with_reducible refine Kd.C_alloc ?_ _) | (with_reducible refine Kd.C_drewN ?_ _) | (with_reducible refine Kd.C_drew ?_))); (case side2 => exact HC0.out); rintro e w' ⟨rfl, ⟨nd, rfl⟩⟩; refine ⟨_, rfl, ?_⟩))
     go_loopg [8] k (fun kq v8 w' => ∃ (x8_1 : Int), v8 = .int .i64 x8_1 ∧ Aside0 (r13_one.l0 kq l0 x8_1 = some (r1, r2, r3, r4, r5, r6, r7, r8, r9, r10, r11, r12, r13, r14)) ∧ Aside0 (kq ≤ k) ∧ Aside0 (w'.heap[gb183]? = some (.cells #[.int .i64 0, .string (⟨#[]⟩ : ByteArray), .string (⟨#[]⟩ : ByteArray), .bool false, .string (⟨#[]⟩ : ByteArray), .string (⟨#[]⟩ : ByteArray), .bool false, .bool false, .int .i64 0, .int .i64 0, .int .i64 0, .int .i64 0, .int .i64 0] 39 (0, 0))) ∧ Aside0 (Below w.heap.size w w'))
     case atStart => exact ⟨(wrap64 (a1 + 2)), (by first | rfl | (simp; done) | (simp [bne_nil_]; done) | (simp [*]; done) | (simp [wrap64]; done) | (refine congrArg (Value.int .i64) ?_; unfold wrap64; omega)), H', ⟨Nat.le_refl _⟩, ⟨by (with_reducible repeat (first | refine blk_drewN ?_ _ | refine blk_drew ?_ | refine blk_alloc ?_ _)); exact BK183.out⟩, ⟨by repeat (first | (with_reducible first | exact HB.out | apply below_alloc | apply pw_below_drewN | apply below_drew1 | refine below_set ?_ GE183.out) | exact HB.out)⟩⟩
     case round =>
      clear H'
      try clear p1
      try clear q1
      try clear hx1
      try clear c2
      try clear p2
      try clear c3
      try clear c3b0
      try clear c4
      try clear c4b0
      try clear c5
      try clear p6
      try clear c8
      try clear hx184_0
      try clear hx184_1
      try clear p184
      try clear q184
      obtain ⟨x8_1, rfl, HA, HK1, BK183, HB⟩ := hrel
      cases gk with
      | zero => exact absurd HA.out (by simp [r13_one.l0])
      | succ k1 =>
       have H := HA.out
       clear HA
       simp only [r13_one.l0] at H
       by_cases c9 : x8_1 < (l0.length : Int)
       ·rw [if_pos c9] at H
        have c9b0 : decide (x8_1 < (l0.length : Int)) = true := decide_eq_true c9
        clear c9
        (first | rw [c9b0] | (simp only [i64_w, i32_w]; rw [c9b0]) | skip)
        replace H := Option.bind_eq_some_iff.mp H
        obtain ⟨t186, A100, H⟩ := H
        replace H : (if t186 = true then (if x8_1 ≥ (l0.length : Int) then (none) else (none)) else (r13_one.l0 k1 l0 (wrap64 (x8_1 + 1)))) = some (r1, r2, r3, r4, r5, r6, r7, r8, r9, r10, r11, r12, r13, r14) := H
        have A10 := Aside0.mk A100
        clear A100
        by_cases c11 : t186 = true
        ·subst c11
         have H1 : (if x8_1 ≥ (l0.length : Int) then (none) else (none)) = some (r1, r2, r3, r4, r5, r6, r7, r8, r9, r10, r11, r12, r13, r14) := by rw [if_pos rfl] at H; exact H
         clear H
         have H := H1
         clear H1
         by_cases c12 : x8_1 ≥ (l0.length : Int)
         ·rw [if_pos c12] at H
          exact absurd H (by simp)
         ·rw [if_neg c12] at H
          exact absurd H (by simp)
        ·replace c11 := Bool.eq_false_iff.mpr c11
         subst c11
         have H1 : (r13_one.l0 k1 l0 (wrap64 (x8_1 + 1))) = some (r1, r2, r3, r4, r5, r6, r7, r8, r9, r10, r11, r12, r13, r14) := by rw [if_neg (show ¬ (false = true) by decide)] at H; exact H
         clear H
         have H := H1
         clear H1
         have H' := Aside0.mk H
         clear H
         go_wp2_with (first | (go_at_call 50; (with_reducible refine (r13_follows.calls k1 _ _ l0 x8_1 (⟨#[42, 47]⟩ : ByteArray) false _ ?side1 ?side2 A10.out).mono ?_); (case side1 => repeat (first | exact (Kd.C_below HR0.out HB.out) | (with_reducible refine Kd.C_alloc ?_ _) | (with_reducible refine Kd.C_drewN ?_ _) | (with_reducible refine Kd.C_drew ?_))); (case side2 => exact HC0.out); rintro e w' ⟨rfl, ⟨nd, rfl⟩⟩))
         go_roundg k1
         case measure => have := HK1.out; omega
         case rel => exact ⟨(wrap64 (x8_1 + 1)), (by first | rfl | (simp; done) | (simp [bne_nil_]; done) | (simp [*]; done) | (simp [wrap64]; done) | (refine congrArg (Value.int .i64) ?_; unfold wrap64; omega)), H', ⟨by have := HK1.out; omega⟩, ⟨by (with_reducible repeat (first | refine blk_drewN ?_ _ | refine blk_drew ?_ | refine blk_alloc ?_ _)); exact BK183.out⟩, ⟨by repeat (first | (with_reducible first | exact HB.out | apply below_alloc | apply pw_below_drewN | apply below_drew1 | refine below_set ?_ GE183.out) | exact HB.out)⟩⟩
       ·rw [if_neg c9] at H
        have c9b0 : decide (x8_1 < (l0.length : Int)) = false := decide_eq_false c9
        clear c9
        (first | rw [c9b0] | (simp only [i64_w, i32_w]; rw [c9b0]) | skip)
        by_cases c13 : x8_1 ≥ (l0.length : Int)
        ·rw [if_pos c13] at H
         exact absurd H (by simp)
        ·rw [if_neg c13] at H
         exact absurd H (by simp)
    ·replace c8 := Bool.eq_false_iff.mpr c8
     subst c8
     have H1 : ((r13_blank.f ((rd_T55 l0 a1).f0)).bind fun t187 => (if t187 = true then (r13_one.l1 k l0 ((rd_T55 l0 a1).f0) a1) else (if ((rd_T55 l0 a1).f0) = 34 then (r13_one.j2 k l0 a1 ((rd_T55 l0 a1).f0) (⟨#[58, 59, 44, 123, 125, 40, 41, 91, 93]⟩ : ByteArray) true) else (r13_one.j2 k l0 a1 ((rd_T55 l0 a1).f0) (⟨#[58, 59, 44, 123, 125, 40, 41, 91, 93]⟩ : ByteArray) (((rd_T55 l0 a1).f0) == 39))))) = some (r1, r2, r3, r4, r5, r6, r7, r8, r9, r10, r11, r12, r13, r14) := by rw [if_neg (show ¬ (false = true) by decide)] at H; exact H
     clear H
     have H := H1
     clear H1
     replace H := Option.bind_eq_some_iff.mp H
     obtain ⟨t187, A140, H⟩ := H
     replace H : (if t187 = true then (r13_one.l1 k l0 ((rd_T55 l0 a1).f0) a1) else (if ((rd_T55 l0 a1).f0) = 34 then (r13_one.j2 k l0 a1 ((rd_T55 l0 a1).f0) (⟨#[58, 59, 44, 123, 125, 40, 41, 91, 93]⟩ : ByteArray) true) else (r13_one.j2 k l0 a1 ((rd_T55 l0 a1).f0) (⟨#[58, 59, 44, 123, 125, 40, 41, 91, 93]⟩ : ByteArray) (((rd_T55 l0 a1).f0) == 39)))) = some (r1, r2, r3, r4, r5, r6, r7, r8, r9, r10, r11, r12, r13, r14) := H
     have A14 := Aside0.mk A140
     clear A140
     by_cases c15 : t187 = true
     ·subst c15
      have H1 : (r13_one.l1 k l0 ((rd_T55 l0 a1).f0) a1) = some (r1, r2, r3, r4, r5, r6, r7, r8, r9, r10, r11, r12, r13, r14) := by rw [if_pos rfl] at H; exact H
      clear H
      have H := H1
      clear H1
      have H' := Aside0.mk H
      clear H
      go_wp2_with (first | ((with_reducible refine gate_callee (f := 50) rfl ?_); refine goesL_ (some 25) rfl rfl Tryd.func50 (by kernel_rfl) rfl #[.slice (some ad184) l0.length c0, .int .i64 a1, .string (⟨#[47, 42]⟩ : ByteArray)] rfl (by (try simp only [List.map_toArray, List.map_cons, List.map_nil]); first | done | rfl | (simp only [List.length_drop, List.length_take]; rfl)) ?_; (with_reducible refine (r13_follows.calls k _ _ l0 a1 (⟨#[47, 42]⟩ : ByteArray) false _ ?side1 ?side2 A7.out).mono ?_); (case side1 => repeat (first | exact (Kd.C_below HR0.out HB.out) | (with_reducible refine Kd.C_alloc ?_ _) | (with_reducible refine Kd.C_drewN ?_ _) | (with_reducible refine Kd.C_drew ?_))); (case side2 => exact HC0.out); rintro e w' ⟨rfl, ⟨nd, rfl⟩⟩; refine ⟨_, rfl, ?_⟩) | ((with_reducible refine gate_callee (f := 52) rfl ?_); refine goesL_ (some 58) rfl rfl Tryd.func52 (by kernel_rfl) rfl #[.int .i64 ((rd_T55 l0 a1).f0)] rfl (by (try simp only [List.map_toArray, List.map_cons, List.map_nil]); first | done | rfl | (simp only [List.length_drop, List.length_take]; rfl)) ?_; (with_reducible refine (r13_blank.calls ((rd_T55 l0 a1).f0) true _ A14.out).mono ?_); rintro e w' ⟨rfl, ⟨nd, rfl⟩⟩; refine ⟨_, rfl, ?_⟩))
      go_loopg [10] k (fun kq v10 w' => ∃ (x10_1 : Int), v10 = .int .i64 x10_1 ∧ Aside0 (r13_one.l1 kq l0 ((rd_T55 l0 a1).f0) x10_1 = some (r1, r2, r3, r4, r5, r6, r7, r8, r9, r10, r11, r12, r13, r14)) ∧ Aside0 (kq ≤ k) ∧ Aside0 (w'.heap[gb183]? = some (.cells #[.int .i64 0, .string (⟨#[]⟩ : ByteArray), .string (⟨#[]⟩ : ByteArray), .bool false, .string (⟨#[]⟩ : ByteArray), .string (⟨#[]⟩ : ByteArray), .bool false, .bool false, .int .i64 0, .int .i64 0, .int .i64 0, .int .i64 0, .int .i64 0] 39 (0, 0))) ∧ Aside0 (Below w.heap.size w w'))
      case atStart => exact ⟨(a1), (by first | rfl | (simp; done) | (simp [bne_nil_]; done) | (simp [*]; done) | (simp [wrap64]; done) | (refine congrArg (Value.int .i64) ?_; unfold wrap64; omega)), H', ⟨Nat.le_refl _⟩, ⟨by (with_reducible repeat (first | refine blk_drewN ?_ _ | refine blk_drew ?_ | refine blk_alloc ?_ _)); exact BK183.out⟩, ⟨by repeat (first | (with_reducible first | exact HB.out | apply below_alloc | apply pw_below_drewN | apply below_drew1 | refine below_set ?_ GE183.out) | exact HB.out)⟩⟩
      case round =>
       clear H'
       try clear c1
       try clear p1
       try clear q1
       try clear hx1
       try clear c2
       try clear p2
       try clear c3
       try clear c3b0
       try clear c4
       try clear c4b0
       try clear c5
       try clear p6
       try clear c8
       try clear c9
       try clear c9b0
       try clear c11
       try clear c12
       try clear c13
       try clear c15
       try clear hx184_0
       try clear hx184_1
       try clear p1
       try clear p184
       try clear p2
       try clear p6
       try clear q1
       try clear q184
       obtain ⟨x10_1, rfl, HA, HK1, BK183, HB⟩ := hrel
       cases gk with
       | zero => exact absurd HA.out (by simp [r13_one.l1])
       | succ k1 =>
        have H := HA.out
        clear HA
        simp only [r13_one.l1] at H
        replace H := Option.bind_eq_some_iff.mp H
        obtain ⟨t188, A160, H⟩ := H
        replace H : ((r13_blank.f t188).bind fun t189 => (if t189 = true then (r13_one.l1 k1 l0 ((rd_T55 l0 a1).f0) (wrap64 (x10_1 + 1))) else (if ((rd_T55 l0 a1).f0) = 10 then (some (13, (⟨#[10]⟩ : ByteArray), (⟨#[]⟩ : ByteArray), false, (⟨#[]⟩ : ByteArray), (⟨#[]⟩ : ByteArray), false, false, 0, 0, 0, 0, 0, x10_1)) else (some (13, (⟨#[32]⟩ : ByteArray), (⟨#[]⟩ : ByteArray), false, (⟨#[]⟩ : ByteArray), (⟨#[]⟩ : ByteArray), false, false, 0, 0, 0, 0, 0, x10_1))))) = some (r1, r2, r3, r4, r5, r6, r7, r8, r9, r10, r11, r12, r13, r14) := H
        have A16 := Aside0.mk A160
        clear A160
        replace H := Option.bind_eq_some_iff.mp H
        obtain ⟨t189, A170, H⟩ := H
        replace H : (if t189 = true then (r13_one.l1 k1 l0 ((rd_T55 l0 a1).f0) (wrap64 (x10_1 + 1))) else (if ((rd_T55 l0 a1).f0) = 10 then (some (13, (⟨#[10]⟩ : ByteArray), (⟨#[]⟩ : ByteArray), false, (⟨#[]⟩ : ByteArray), (⟨#[]⟩ : ByteArray), false, false, 0, 0, 0, 0, 0, x10_1)) else (some (13, (⟨#[32]⟩ : ByteArray), (⟨#[]⟩ : ByteArray), false, (⟨#[]⟩ : ByteArray), (⟨#[]⟩ : ByteArray), false, false, 0, 0, 0, 0, 0, x10_1)))) = some (r1, r2, r3, r4, r5, r6, r7, r8, r9, r10, r11, r12, r13, r14) := H
        have A17 := Aside0.mk A170
        clear A170
        by_cases c18 : t189 = true
        ·subst c18
         have H1 : (r13_one.l1 k1 l0 ((rd_T55 l0 a1).f0) (wrap64 (x10_1 + 1))) = some (r1, r2, r3, r4, r5, r6, r7, r8, r9, r10, r11, r12, r13, r14) := by rw [if_pos rfl] at H; exact H
         clear H
         have H := H1
         clear H1
         have H' := Aside0.mk H
         clear H
         go_wp2_with (first | ((with_reducible refine gate_callee (f := 53) rfl ?_); refine goesL_ (some 62) rfl rfl Tryd.func53 (by kernel_rfl) rfl #[.slice (some ad184) l0.length c0, .int .i64 x10_1] rfl (by (try simp only [List.map_toArray, List.map_cons, List.map_nil]); first | done | rfl | (simp only [List.length_drop, List.length_take]; rfl)) ?_; (with_reducible refine (r13_at.calls _ _ l0 x10_1 t188 _ ?side1 ?side2 A16.out).mono ?_); (case side1 => repeat (first | exact (Kd.C_below HR0.out HB.out) | (with_reducible refine Kd.C_alloc ?_ _) | (with_reducible refine Kd.C_drewN ?_ _) | (with_reducible refine Kd.C_drew ?_))); (case side2 => exact HC0.out); rintro e w' ⟨rfl, ⟨nd, rfl⟩⟩; refine ⟨_, rfl, ?_⟩) | ((with_reducible refine gate_callee (f := 52) rfl ?_); refine goesL_ (some 63) rfl rfl Tryd.func52 (by kernel_rfl) rfl #[.int .i64 t188] rfl (by (try simp only [List.map_toArray, List.map_cons, List.map_nil]); first | done | rfl | (simp only [List.length_drop, List.length_take]; rfl)) ?_; (with_reducible refine (r13_blank.calls t188 true _ A17.out).mono ?_); rintro e w' ⟨rfl, ⟨nd, rfl⟩⟩; refine ⟨_, rfl, ?_⟩))
         go_roundg k1
         case measure => have := HK1.out; omega
         case rel => exact ⟨(wrap64 (x10_1 + 1)), (by first | rfl | (simp; done) | (simp [bne_nil_]; done) | (simp [*]; done) | (simp [wrap64]; done) | (refine congrArg (Value.int .i64) ?_; unfold wrap64; omega)), H', ⟨by have := HK1.out; omega⟩, ⟨by (with_reducible repeat (first | refine blk_drewN ?_ _ | refine blk_drew ?_ | refine blk_alloc ?_ _)); exact BK183.out⟩, ⟨by repeat (first | (with_reducible first | exact HB.out | apply below_alloc | apply pw_below_drewN | apply below_drew1 | refine below_set ?_ GE183.out) | exact HB.out)⟩⟩
        ·replace c18 := Bool.eq_false_iff.mpr c18
         subst c18
         have H1 : (if ((rd_T55 l0 a1).f0) = 10 then (some (13, (⟨#[10]⟩ : ByteArray), (⟨#[]⟩ : ByteArray), false, (⟨#[]⟩ : ByteArray), (⟨#[]⟩ : ByteArray), false, false, 0, 0, 0, 0, 0, x10_1)) else (some (13, (⟨#[32]⟩ : ByteArray), (⟨#[]⟩ : ByteArray), false, (⟨#[]⟩ : ByteArray), (⟨#[]⟩ : ByteArray), false, false, 0, 0, 0, 0, 0, x10_1))) = some (r1, r2, r3, r4, r5, r6, r7, r8, r9, r10, r11, r12, r13, r14) := by rw [if_neg (show ¬ (false = true) by decide)] at H; exact H
         clear H
         have H := H1
         clear H1
         by_cases c19 : ((rd_T55 l0 a1).f0) = 10
         ·rw [if_pos c19] at H
          have c19b0 : (((rd_T55 l0 a1).f0) == 10) = true := beq_iff_eq.mpr c19
          have c19b1 : (((rd_T55 l0 a1).f0) != 10) = false := bne_eq_false_iff_eq.mpr c19
          clear c19
          simp only [Option.some.injEq, Prod.mk.injEq] at H
          obtain ⟨rfl, rfl, rfl, rfl, rfl, rfl, rfl, rfl, rfl, rfl, rfl, rfl, rfl, rfl⟩ := H
          go_wp2_with (first | ((with_reducible refine gate_callee (f := 53) rfl ?_); refine goesL_ (some 62) rfl rfl Tryd.func53 (by kernel_rfl) rfl #[.slice (some ad184) l0.length c0, .int .i64 x10_1] rfl (by (try simp only [List.map_toArray, List.map_cons, List.map_nil]); first | done | rfl | (simp only [List.length_drop, List.length_take]; rfl)) ?_; (with_reducible refine (r13_at.calls _ _ l0 x10_1 t188 _ ?side1 ?side2 A16.out).mono ?_); (case side1 => repeat (first | exact (Kd.C_below HR0.out HB.out) | (with_reducible refine Kd.C_alloc ?_ _) | (with_reducible refine Kd.C_drewN ?_ _) | (with_reducible refine Kd.C_drew ?_))); (case side2 => exact HC0.out); rintro e w' ⟨rfl, ⟨nd, rfl⟩⟩; refine ⟨_, rfl, ?_⟩; (try (rw [drewN_self wr]; generalize hq_ : World.drewN wr _ = wr; have n0_ : Aside0 (wr.heap[gb183]? = some (.cells #[.int .i64 0, .string (⟨#[]⟩ : ByteArray), .string (⟨#[]⟩ : ByteArray), .bool false, .string (⟨#[]⟩ : ByteArray), .string (⟨#[]⟩ : ByteArray), .bool false, .bool false, .int .i64 0, .int .i64 0, .int .i64 0, .int .i64 0, .int .i64 0] 39 (0, 0))) := ⟨by rw [← hq_]; exact (by (with_reducible repeat (first | refine blk_drewN ?_ _ | refine blk_drew ?_ | refine blk_alloc ?_ _)); exact BK183.out)⟩; have n1_ : Aside0 (Below w.heap.size w wr) := ⟨by rw [← hq_]; exact (by repeat (first | (with_reducible first | exact HB.out | apply below_alloc | apply pw_below_drewN | apply below_drew1 | refine below_set ?_ GE183.out) | exact HB.out))⟩; clear BK183 HB hq_; have BK183 := n0_; have HB := n1_; clear n0_ n1_))) | ((with_reducible refine gate_callee (f := 52) rfl ?_); refine goesL_ (some 63) rfl rfl Tryd.func52 (by kernel_rfl) rfl #[.int .i64 t188] rfl (by (try simp only [List.map_toArray, List.map_cons, List.map_nil]); first | done | rfl | (simp only [List.length_drop, List.length_take]; rfl)) ?_; (with_reducible refine (r13_blank.calls t188 false _ A17.out).mono ?_); rintro e w' ⟨rfl, ⟨nd, rfl⟩⟩; refine ⟨_, rfl, ?_⟩; (try (rw [drewN_self wr]; generalize hq_ : World.drewN wr _ = wr; have n0_ : Aside0 (wr.heap[gb183]? = some (.cells #[.int .i64 0, .string (⟨#[]⟩ : ByteArray), .string (⟨#[]⟩ : ByteArray), .bool false, .string (⟨#[]⟩ : ByteArray), .string (⟨#[]⟩ : ByteArray), .bool false, .bool false, .int .i64 0, .int .i64 0, .int .i64 0, .int .i64 0, .int .i64 0] 39 (0, 0))) := ⟨by rw [← hq_]; exact (by (with_reducible repeat (first | refine blk_drewN ?_ _ | refine blk_drew ?_ | refine blk_alloc ?_ _)); exact BK183.out)⟩; have n1_ : Aside0 (Below w.heap.size w wr) := ⟨by rw [← hq_]; exact (by repeat (first | (with_reducible first | exact HB.out | apply below_alloc | apply pw_below_drewN | apply below_drew1 | refine below_set ?_ GE183.out) | exact HB.out))⟩; clear BK183 HB hq_; have BK183 := n0_; have HB := n1_; clear n0_ n1_))) | ((with_reducible refine gate_dst (N := 11) rfl ?_); refine box_event ?hg (N := 11) ?hd (cs := #[.int .i64 0, .string (⟨#[]⟩ : ByteArray), .string (⟨#[]⟩ : ByteArray), .bool false, .string (⟨#[]⟩ : ByteArray), .string (⟨#[]⟩ : ByteArray), .bool false, .bool false, .int .i64 0, .int .i64 0, .int .i64 0, .int .i64 0, .int .i64 0]) (t := 39) ?hr ?_; (case hd => rfl); (case hg => rfl); (case hr => first | (go_simp; done) | (go_simp; rfl)); intro gb190 hg w20 hbox hb; have n0_ := Aside0.mk (blk_below (g := gb183) (o := .cells #[.int .i64 0, .string (⟨#[]⟩ : ByteArray), .string (⟨#[]⟩ : ByteArray), .bool false, .string (⟨#[]⟩ : ByteArray), .string (⟨#[]⟩ : ByteArray), .bool false, .bool false, .int .i64 0, .int .i64 0, .int .i64 0, .int .i64 0, .int .i64 0] 39 (0, 0)) (by (with_reducible repeat (first | refine blk_drewN ?_ _ | refine blk_drew ?_ | refine blk_alloc ?_ _)); exact BK183.out) hb); have n1_ := Aside0.mk (below_step (by repeat (first | (with_reducible first | exact HB.out | apply below_alloc | apply pw_below_drewN | apply below_drew1 | refine below_set ?_ GE183.out) | exact HB.out)) hb); have n2_ := Aside0.mk (hbox); have n3_ := Aside0.mk ((by rw [hg]; exact (below_size (by repeat (first | (with_reducible first | exact HB.out | apply below_alloc | apply pw_below_drewN | apply below_drew1 | refine below_set ?_ GE183.out) | exact HB.out))) : w.heap.size ≤ gb190)); have n4_ := Aside0.mk ((by rw [hg]; exact (below_size (by repeat (first | (with_reducible first | exact HB.out | apply below_alloc | apply pw_below_drewN | apply below_drew1 | refine below_set ?_ GE183.out) | exact HB.out))) : w.heap.size ≤ gb190)); have n5_ := Aside0.mk ((by rw [hg]; exact Nat.ne_of_lt (blk_lt (g := gb183) (o := .cells #[.int .i64 0, .string (⟨#[]⟩ : ByteArray), .string (⟨#[]⟩ : ByteArray), .bool false, .string (⟨#[]⟩ : ByteArray), .string (⟨#[]⟩ : ByteArray), .bool false, .bool false, .int .i64 0, .int .i64 0, .int .i64 0, .int .i64 0, .int .i64 0] 39 (0, 0)) (by (with_reducible repeat (first | refine blk_drewN ?_ _ | refine blk_drew ?_ | refine blk_alloc ?_ _)); exact BK183.out)) : gb183 ≠ gb190)); have n6_ := Aside0.mk ((by rw [hg]; exact Nat.ne_of_gt (blk_lt (g := gb183) (o := .cells #[.int .i64 0, .string (⟨#[]⟩ : ByteArray), .string (⟨#[]⟩ : ByteArray), .bool false, .string (⟨#[]⟩ : ByteArray), .string (⟨#[]⟩ : ByteArray), .bool false, .bool false, .int .i64 0, .int .i64 0, .int .i64 0, .int .i64 0, .int .i64 0] 39 (0, 0)) (by (with_reducible repeat (first | refine blk_drewN ?_ _ | refine blk_drew ?_ | refine blk_alloc ?_ _)); exact BK183.out)) : gb190 ≠ gb183)); clear BK183; clear HB; have BK183 := n0_; have HB := n1_; have BK190 := n2_; have GW190 := n3_; have GE190 := n4_; have NB183_190 := n5_; have NB190_183 := n6_; clear n0_ n1_ n2_ n3_ n4_ n5_ n6_; clear hb hbox hg; have hnb21 := NB190_183.out; have hnc21 := NB183_190.out; have hcz22_0 : w20.cell? ⟨gb190, 0, none⟩ = some (.int .i64 0) := (blk_cell BK190.out 0).trans rfl; have hcz22_1 : w20.cell? ⟨gb190, 1, none⟩ = some (.string (⟨#[]⟩ : ByteArray)) := (blk_cell BK190.out 1).trans rfl; have hcz22_2 : w20.cell? ⟨gb190, 2, none⟩ = some (.string (⟨#[]⟩ : ByteArray)) := (blk_cell BK190.out 2).trans rfl; have hcz22_3 : w20.cell? ⟨gb190, 3, none⟩ = some (.bool false) := (blk_cell BK190.out 3).trans rfl; have hcz22_4 : w20.cell? ⟨gb190, 4, none⟩ = some (.string (⟨#[]⟩ : ByteArray)) := (blk_cell BK190.out 4).trans rfl; have hcz22_5 : w20.cell? ⟨gb190, 5, none⟩ = some (.string (⟨#[]⟩ : ByteArray)) := (blk_cell BK190.out 5).trans rfl; have hcz22_6 : w20.cell? ⟨gb190, 6, none⟩ = some (.bool false) := (blk_cell BK190.out 6).trans rfl; have hcz22_7 : w20.cell? ⟨gb190, 7, none⟩ = some (.bool false) := (blk_cell BK190.out 7).trans rfl; have hcz22_8 : w20.cell? ⟨gb190, 8, none⟩ = some (.int .i64 0) := (blk_cell BK190.out 8).trans rfl; have hcz22_9 : w20.cell? ⟨gb190, 9, none⟩ = some (.int .i64 0) := (blk_cell BK190.out 9).trans rfl; have hcz22_10 : w20.cell? ⟨gb190, 10, none⟩ = some (.int .i64 0) := (blk_cell BK190.out 10).trans rfl; have hcz22_11 : w20.cell? ⟨gb190, 11, none⟩ = some (.int .i64 0) := (blk_cell BK190.out 11).trans rfl; have hcz22_12 : w20.cell? ⟨gb190, 12, none⟩ = some (.int .i64 0) := (blk_cell BK190.out 12).trans rfl; have hfz22_0 := blk_frozen BK190.out 0; have hfz22_1 := blk_frozen BK190.out 1; have hfz22_2 := blk_frozen BK190.out 2; have hfz22_3 := blk_frozen BK190.out 3; have hfz22_4 := blk_frozen BK190.out 4; have hfz22_5 := blk_frozen BK190.out 5; have hfz22_6 := blk_frozen BK190.out 6; have hfz22_7 := blk_frozen BK190.out 7; have hfz22_8 := blk_frozen BK190.out 8; have hfz22_9 := blk_frozen BK190.out 9; have hfz22_10 := blk_frozen BK190.out 10; have hfz22_11 := blk_frozen BK190.out 11; have hfz22_12 := blk_frozen BK190.out 12) | ((with_reducible refine gate_store (t := 39) (p := 11) rfl ?_); refine store_all13 (t := 39) (p := 11) (v := ?vo_w23) gb190 (.int .i64 13) (.string (⟨#[32]⟩ : ByteArray)) (.string (⟨#[]⟩ : ByteArray)) (.bool false) (.string (⟨#[]⟩ : ByteArray)) (.string (⟨#[]⟩ : ByteArray)) (.bool false) (.bool false) (.int .i64 0) (.int .i64 0) (.int .i64 0) (.int .i64 0) (.int .i64 0) ?hg ?ho ?hn (by (with_reducible repeat (first | refine blk_drewN ?_ _ | refine blk_drew ?_ | refine blk_alloc ?_ _)); exact BK190.out) ?hx ?hy ?hi ?h1 ?_; (case ho => rfl); (case hg => rfl); (case hn => rfl); (case hx => first | rfl | (go_simp; done) | (go_simp; rfl)); (case hy => first | with_reducible rfl | (go_simp; done) | (go_simp; rfl)); (case hi => kernel_rfl); (case h1 => rfl); intro w23 hw; have n0_ : Aside0 (w23.heap[gb183]? = some (.cells #[.int .i64 0, .string (⟨#[]⟩ : ByteArray), .string (⟨#[]⟩ : ByteArray), .bool false, .string (⟨#[]⟩ : ByteArray), .string (⟨#[]⟩ : ByteArray), .bool false, .bool false, .int .i64 0, .int .i64 0, .int .i64 0, .int .i64 0, .int .i64 0] 39 (0, 0))) := ⟨(by rw [hw]; exact (farall13 (by (with_reducible repeat (first | refine blk_drewN ?_ _ | refine blk_drew ?_ | refine blk_alloc ?_ _)); exact BK183.out) (NB183_190.out) (.int .i64 13) (.string (⟨#[32]⟩ : ByteArray)) (.string (⟨#[]⟩ : ByteArray)) (.bool false) (.string (⟨#[]⟩ : ByteArray)) (.string (⟨#[]⟩ : ByteArray)) (.bool false) (.bool false) (.int .i64 0) (.int .i64 0) (.int .i64 0) (.int .i64 0) (.int .i64 0)))⟩; have n1_ : Aside0 (w23.heap[gb190]? = some (.cells #[.int .i64 13, .string (⟨#[32]⟩ : ByteArray), .string (⟨#[]⟩ : ByteArray), .bool false, .string (⟨#[]⟩ : ByteArray), .string (⟨#[]⟩ : ByteArray), .bool false, .bool false, .int .i64 0, .int .i64 0, .int .i64 0, .int .i64 0, .int .i64 0] 39 (0, 0))) := ⟨(by rw [hw]; exact (putall13 (by (with_reducible repeat (first | refine blk_drewN ?_ _ | refine blk_drew ?_ | refine blk_alloc ?_ _)); exact BK190.out) (.int .i64 13) (.string (⟨#[32]⟩ : ByteArray)) (.string (⟨#[]⟩ : ByteArray)) (.bool false) (.string (⟨#[]⟩ : ByteArray)) (.string (⟨#[]⟩ : ByteArray)) (.bool false) (.bool false) (.int .i64 0) (.int .i64 0) (.int .i64 0) (.int .i64 0) (.int .i64 0)))⟩; have n2_ : Aside0 (Below w.heap.size w w23) := ⟨(by rw [hw]; exact (belall13 (by repeat (first | (with_reducible first | exact HB.out | apply below_alloc | apply pw_below_drewN | apply below_drew1) | exact HB.out)) GE190.out (.int .i64 13) (.string (⟨#[32]⟩ : ByteArray)) (.string (⟨#[]⟩ : ByteArray)) (.bool false) (.string (⟨#[]⟩ : ByteArray)) (.string (⟨#[]⟩ : ByteArray)) (.bool false) (.bool false) (.int .i64 0) (.int .i64 0) (.int .i64 0) (.int .i64 0) (.int .i64 0)))⟩; clear hw; clear BK183; clear BK190; clear HB; have BK183 := n0_; have BK190 := n1_; have HB := n2_; clear n0_ n1_ n2_; have hcz24_0 : w23.cell? ⟨gb190, 0, none⟩ = some (.int .i64 13) := (blk_cell BK190.out 0).trans rfl; have hcz24_1 : w23.cell? ⟨gb190, 1, none⟩ = some (.string (⟨#[32]⟩ : ByteArray)) := (blk_cell BK190.out 1).trans rfl; have hcz24_2 : w23.cell? ⟨gb190, 2, none⟩ = some (.string (⟨#[]⟩ : ByteArray)) := (blk_cell BK190.out 2).trans rfl; have hcz24_3 : w23.cell? ⟨gb190, 3, none⟩ = some (.bool false) := (blk_cell BK190.out 3).trans rfl; have hcz24_4 : w23.cell? ⟨gb190, 4, none⟩ = some (.string (⟨#[]⟩ : ByteArray)) := (blk_cell BK190.out 4).trans rfl; have hcz24_5 : w23.cell? ⟨gb190, 5, none⟩ = some (.string (⟨#[]⟩ : ByteArray)) := (blk_cell BK190.out 5).trans rfl; have hcz24_6 : w23.cell? ⟨gb190, 6, none⟩ = some (.bool false) := (blk_cell BK190.out 6).trans rfl; have hcz24_7 : w23.cell? ⟨gb190, 7, none⟩ = some (.bool false) := (blk_cell BK190.out 7).trans rfl; have hcz24_8 : w23.cell? ⟨gb190, 8, none⟩ = some (.int .i64 0) := (blk_cell BK190.out 8).trans rfl; have hcz24_9 : w23.cell? ⟨gb190, 9, none⟩ = some (.int .i64 0) := (blk_cell BK190.out 9).trans rfl; have hcz24_10 : w23.cell? ⟨gb190, 10, none⟩ = some (.int .i64 0) := (blk_cell BK190.out 10).trans rfl; have hcz24_11 : w23.cell? ⟨gb190, 11, none⟩ = some (.int .i64 0) := (blk_cell BK190.out 11).trans rfl; have hcz24_12 : w23.cell? ⟨gb190, 12, none⟩ = some (.int .i64 0) := (blk_cell BK190.out 12).trans rfl; have hfz24_0 := blk_frozen BK190.out 0; have hfz24_1 := blk_frozen BK190.out 1; have hfz24_2 := blk_frozen BK190.out 2; have hfz24_3 := blk_frozen BK190.out 3; have hfz24_4 := blk_frozen BK190.out 4; have hfz24_5 := blk_frozen BK190.out 5; have hfz24_6 := blk_frozen BK190.out 6; have hfz24_7 := blk_frozen BK190.out 7; have hfz24_8 := blk_frozen BK190.out 8; have hfz24_9 := blk_frozen BK190.out 9; have hfz24_10 := blk_frozen BK190.out 10; have hfz24_11 := blk_frozen BK190.out 11; have hfz24_12 := blk_frozen BK190.out 12) | ((with_reducible refine gate_store (t := 9) (p := 69) rfl ?_); refine store_event (t := 9) (p := 69) (v := ?vo_w25) (w1 := (w23.setCell ⟨gb190, 1, none⟩ (.string (⟨#[10]⟩ : ByteArray)))) ?hg ?ho ?hn ?hr ?_; (case ho => rfl); (case hg => rfl); (case hn => rfl); (case hr => first | (go_simp; done) | (go_simp; rfl)); intro w25 hw; have n0_ : Aside0 (w25.heap[gb183]? = some (.cells #[.int .i64 0, .string (⟨#[]⟩ : ByteArray), .string (⟨#[]⟩ : ByteArray), .bool false, .string (⟨#[]⟩ : ByteArray), .string (⟨#[]⟩ : ByteArray), .bool false, .bool false, .int .i64 0, .int .i64 0, .int .i64 0, .int .i64 0, .int .i64 0] 39 (0, 0))) := ⟨(by rw [hw]; exact (by (with_reducible repeat (first | refine blk_drewN ?_ _ | refine blk_drew ?_ | refine blk_alloc ?_ _)); refine blk_far ?_ NB183_190.out _; (with_reducible repeat (first | refine blk_drewN ?_ _ | refine blk_drew ?_ | refine blk_alloc ?_ _)); exact BK183.out))⟩; have n1_ : Aside0 (w25.heap[gb190]? = some (.cells #[.int .i64 13, .string (⟨#[10]⟩ : ByteArray), .string (⟨#[]⟩ : ByteArray), .bool false, .string (⟨#[]⟩ : ByteArray), .string (⟨#[]⟩ : ByteArray), .bool false, .bool false, .int .i64 0, .int .i64 0, .int .i64 0, .int .i64 0, .int .i64 0] 39 (0, 0))) := ⟨(by rw [hw]; exact (by (with_reducible repeat (first | refine blk_drewN ?_ _ | refine blk_drew ?_ | refine blk_alloc ?_ _)); refine blk_put (cs := #[.int .i64 13, .string (⟨#[32]⟩ : ByteArray), .string (⟨#[]⟩ : ByteArray), .bool false, .string (⟨#[]⟩ : ByteArray), .string (⟨#[]⟩ : ByteArray), .bool false, .bool false, .int .i64 0, .int .i64 0, .int .i64 0, .int .i64 0, .int .i64 0]) ?_ 1 _ rfl; (with_reducible repeat (first | refine blk_drewN ?_ _ | refine blk_drew ?_ | refine blk_alloc ?_ _)); exact BK190.out))⟩; have n2_ : Aside0 (Below w.heap.size w w25) := ⟨(by rw [hw]; exact (by repeat (first | (with_reducible first | exact HB.out | apply below_alloc | apply pw_below_drewN | apply below_drew1 | refine below_set ?_ GE183.out | refine below_set ?_ GE190.out) | exact HB.out)))⟩; clear hw; clear BK183; clear BK190; clear HB; have BK183 := n0_; have BK190 := n1_; have HB := n2_; clear n0_ n1_ n2_; have hcz26_0 : w25.cell? ⟨gb190, 0, none⟩ = some (.int .i64 13) := (blk_cell BK190.out 0).trans rfl; have hcz26_1 : w25.cell? ⟨gb190, 1, none⟩ = some (.string (⟨#[10]⟩ : ByteArray)) := (blk_cell BK190.out 1).trans rfl; have hcz26_2 : w25.cell? ⟨gb190, 2, none⟩ = some (.string (⟨#[]⟩ : ByteArray)) := (blk_cell BK190.out 2).trans rfl; have hcz26_3 : w25.cell? ⟨gb190, 3, none⟩ = some (.bool false) := (blk_cell BK190.out 3).trans rfl; have hcz26_4 : w25.cell? ⟨gb190, 4, none⟩ = some (.string (⟨#[]⟩ : ByteArray)) := (blk_cell BK190.out 4).trans rfl; have hcz26_5 : w25.cell? ⟨gb190, 5, none⟩ = some (.string (⟨#[]⟩ : ByteArray)) := (blk_cell BK190.out 5).trans rfl; have hcz26_6 : w25.cell? ⟨gb190, 6, none⟩ = some (.bool false) := (blk_cell BK190.out 6).trans rfl; have hcz26_7 : w25.cell? ⟨gb190, 7, none⟩ = some (.bool false) := (blk_cell BK190.out 7).trans rfl; have hcz26_8 : w25.cell? ⟨gb190, 8, none⟩ = some (.int .i64 0) := (blk_cell BK190.out 8).trans rfl; have hcz26_9 : w25.cell? ⟨gb190, 9, none⟩ = some (.int .i64 0) := (blk_cell BK190.out 9).trans rfl; have hcz26_10 : w25.cell? ⟨gb190, 10, none⟩ = some (.int .i64 0) := (blk_cell BK190.out 10).trans rfl; have hcz26_11 : w25.cell? ⟨gb190, 11, none⟩ = some (.int .i64 0) := (blk_cell BK190.out 11).trans rfl; have hcz26_12 : w25.cell? ⟨gb190, 12, none⟩ = some (.int .i64 0) := (blk_cell BK190.out 12).trans rfl; have hfz26_0 := blk_frozen BK190.out 0; have hfz26_1 := blk_frozen BK190.out 1; have hfz26_2 := blk_frozen BK190.out 2; have hfz26_3 := blk_frozen BK190.out 3; have hfz26_4 := blk_frozen BK190.out 4; have hfz26_5 := blk_frozen BK190.out 5; have hfz26_6 := blk_frozen BK190.out 6; have hfz26_7 := blk_frozen BK190.out 7; have hfz26_8 := blk_frozen BK190.out 8; have hfz26_9 := blk_frozen BK190.out 9; have hfz26_10 := blk_frozen BK190.out 10; have hfz26_11 := blk_frozen BK190.out 11; have hfz26_12 := blk_frozen BK190.out 12; have hcz27_0 : w25.cell? ⟨gb183, 0, none⟩ = some (.int .i64 0) := (blk_cell BK183.out 0).trans rfl; have hcz27_1 : w25.cell? ⟨gb183, 1, none⟩ = some (.string (⟨#[]⟩ : ByteArray)) := (blk_cell BK183.out 1).trans rfl; have hcz27_2 : w25.cell? ⟨gb183, 2, none⟩ = some (.string (⟨#[]⟩ : ByteArray)) := (blk_cell BK183.out 2).trans rfl; have hcz27_3 : w25.cell? ⟨gb183, 3, none⟩ = some (.bool false) := (blk_cell BK183.out 3).trans rfl; have hcz27_4 : w25.cell? ⟨gb183, 4, none⟩ = some (.string (⟨#[]⟩ : ByteArray)) := (blk_cell BK183.out 4).trans rfl; have hcz27_5 : w25.cell? ⟨gb183, 5, none⟩ = some (.string (⟨#[]⟩ : ByteArray)) := (blk_cell BK183.out 5).trans rfl; have hcz27_6 : w25.cell? ⟨gb183, 6, none⟩ = some (.bool false) := (blk_cell BK183.out 6).trans rfl; have hcz27_7 : w25.cell? ⟨gb183, 7, none⟩ = some (.bool false) := (blk_cell BK183.out 7).trans rfl; have hcz27_8 : w25.cell? ⟨gb183, 8, none⟩ = some (.int .i64 0) := (blk_cell BK183.out 8).trans rfl; have hcz27_9 : w25.cell? ⟨gb183, 9, none⟩ = some (.int .i64 0) := (blk_cell BK183.out 9).trans rfl; have hcz27_10 : w25.cell? ⟨gb183, 10, none⟩ = some (.int .i64 0) := (blk_cell BK183.out 10).trans rfl; have hcz27_11 : w25.cell? ⟨gb183, 11, none⟩ = some (.int .i64 0) := (blk_cell BK183.out 11).trans rfl; have hcz27_12 : w25.cell? ⟨gb183, 12, none⟩ = some (.int .i64 0) := (blk_cell BK183.out 12).trans rfl; have hfz27_0 := blk_frozen BK183.out 0; have hfz27_1 := blk_frozen BK183.out 1; have hfz27_2 := blk_frozen BK183.out 2; have hfz27_3 := blk_frozen BK183.out 3; have hfz27_4 := blk_frozen BK183.out 4; have hfz27_5 := blk_frozen BK183.out 5; have hfz27_6 := blk_frozen BK183.out 6; have hfz27_7 := blk_frozen BK183.out 7; have hfz27_8 := blk_frozen BK183.out 8; have hfz27_9 := blk_frozen BK183.out 9; have hfz27_10 := blk_frozen BK183.out 10; have hfz27_11 := blk_frozen BK183.out 11; have hfz27_12 := blk_frozen BK183.out 12) | ((with_reducible refine gate_store (t := 39) (p := 4) rfl ?_); refine store_all13 (t := 39) (p := 4) (v := ?vo_w28) gb183 (.int .i64 13) (.string (⟨#[10]⟩ : ByteArray)) (.string (⟨#[]⟩ : ByteArray)) (.bool false) (.string (⟨#[]⟩ : ByteArray)) (.string (⟨#[]⟩ : ByteArray)) (.bool false) (.bool false) (.int .i64 0) (.int .i64 0) (.int .i64 0) (.int .i64 0) (.int .i64 0) ?hg ?ho ?hn (by (with_reducible repeat (first | refine blk_drewN ?_ _ | refine blk_drew ?_ | refine blk_alloc ?_ _)); exact BK183.out) ?hx ?hy ?hi ?h1 ?_; (case ho => rfl); (case hg => rfl); (case hn => rfl); (case hx => first | rfl | (go_simp; done) | (go_simp; rfl)); (case hy => first | with_reducible rfl | (go_simp; done) | (go_simp; rfl)); (case hi => kernel_rfl); (case h1 => rfl); intro w28 hw; have n0_ : Aside0 (w28.heap[gb183]? = some (.cells #[.int .i64 13, .string (⟨#[10]⟩ : ByteArray), .string (⟨#[]⟩ : ByteArray), .bool false, .string (⟨#[]⟩ : ByteArray), .string (⟨#[]⟩ : ByteArray), .bool false, .bool false, .int .i64 0, .int .i64 0, .int .i64 0, .int .i64 0, .int .i64 0] 39 (0, 0))) := ⟨(by rw [hw]; exact (putall13 (by (with_reducible repeat (first | refine blk_drewN ?_ _ | refine blk_drew ?_ | refine blk_alloc ?_ _)); exact BK183.out) (.int .i64 13) (.string (⟨#[10]⟩ : ByteArray)) (.string (⟨#[]⟩ : ByteArray)) (.bool false) (.string (⟨#[]⟩ : ByteArray)) (.string (⟨#[]⟩ : ByteArray)) (.bool false) (.bool false) (.int .i64 0) (.int .i64 0) (.int .i64 0) (.int .i64 0) (.int .i64 0)))⟩; have n1_ : Aside0 (w28.heap[gb190]? = some (.cells #[.int .i64 13, .string (⟨#[10]⟩ : ByteArray), .string (⟨#[]⟩ : ByteArray), .bool false, .string (⟨#[]⟩ : ByteArray), .string (⟨#[]⟩ : ByteArray), .bool false, .bool false, .int .i64 0, .int .i64 0, .int .i64 0, .int .i64 0, .int .i64 0] 39 (0, 0))) := ⟨(by rw [hw]; exact (farall13 (by (with_reducible repeat (first | refine blk_drewN ?_ _ | refine blk_drew ?_ | refine blk_alloc ?_ _)); exact BK190.out) (NB190_183.out) (.int .i64 13) (.string (⟨#[10]⟩ : ByteArray)) (.string (⟨#[]⟩ : ByteArray)) (.bool false) (.string (⟨#[]⟩ : ByteArray)) (.string (⟨#[]⟩ : ByteArray)) (.bool false) (.bool false) (.int .i64 0) (.int .i64 0) (.int .i64 0) (.int .i64 0) (.int .i64 0)))⟩; have n2_ : Aside0 (Below w.heap.size w w28) := ⟨(by rw [hw]; exact (belall13 (by repeat (first | (with_reducible first | exact HB.out | apply below_alloc | apply pw_below_drewN | apply below_drew1) | exact HB.out)) GE183.out (.int .i64 13) (.string (⟨#[10]⟩ : ByteArray)) (.string (⟨#[]⟩ : ByteArray)) (.bool false) (.string (⟨#[]⟩ : ByteArray)) (.string (⟨#[]⟩ : ByteArray)) (.bool false) (.bool false) (.int .i64 0) (.int .i64 0) (.int .i64 0) (.int .i64 0) (.int .i64 0)))⟩; clear hw; clear BK183; clear BK190; clear HB; have BK183 := n0_; have BK190 := n1_; have HB := n2_; clear n0_ n1_ n2_))
          refine bodyPost_ret (results_ct rfl _ _ gb183 39 #[.int .i64 13, .string (⟨#[10]⟩ : ByteArray), .string (⟨#[]⟩ : ByteArray), .bool false, .string (⟨#[]⟩ : ByteArray), .string (⟨#[]⟩ : ByteArray), .bool false, .bool false, .int .i64 0, .int .i64 0, .int .i64 0, .int .i64 0, .int .i64 0] (0, 0) _ rfl (by (with_reducible repeat (first | refine blk_drewN ?_ _ | refine blk_drew ?_ | refine blk_alloc ?_ _)); exact BK183.out) Tryd.underlying39 rfl (by kernel_rfl)) rfl ?_
          exact ⟨by first | rfl | (simp [errW_none, errW_some] <;> rfl) | (simp [*, errW_none, errW_some] <;> rfl), by repeat (first | (with_reducible first | exact HB.out | apply below_alloc | apply pw_below_drewN | apply below_drew1 | refine below_set ?_ GE183.out | refine below_set ?_ GE190.out) | exact HB.out)⟩
         ·rw [if_neg c19] at H
          have c19b0 : (((rd_T55 l0 a1).f0) == 10) = false := beq_eq_false_iff_ne.mpr c19
          have c19b1 : (((rd_T55 l0 a1).f0) != 10) = true := bne_iff_ne.mpr c19
          simp only [Option.some.injEq, Prod.mk.injEq] at H
          obtain ⟨rfl, rfl, rfl, rfl, rfl, rfl, rfl, rfl, rfl, rfl, rfl, rfl, rfl, rfl⟩ := H
          go_wp2_with (first | ((with_reducible refine gate_callee (f := 53) rfl ?_); refine goesL_ (some 62) rfl rfl Tryd.func53 (by kernel_rfl) rfl #[.slice (some ad184) l0.length c0, .int .i64 x10_1] rfl (by (try simp only [List.map_toArray, List.map_cons, List.map_nil]); first | done | rfl | (simp only [List.length_drop, List.length_take]; rfl)) ?_; (with_reducible refine (r13_at.calls _ _ l0 x10_1 t188 _ ?side1 ?side2 A16.out).mono ?_); (case side1 => repeat (first | exact (Kd.C_below HR0.out HB.out) | (with_reducible refine Kd.C_alloc ?_ _) | (with_reducible refine Kd.C_drewN ?_ _) | (with_reducible refine Kd.C_drew ?_))); (case side2 => exact HC0.out); rintro e w' ⟨rfl, ⟨nd, rfl⟩⟩; refine ⟨_, rfl, ?_⟩; (try (rw [drewN_self wr]; generalize hq_ : World.drewN wr _ = wr; have n0_ : Aside0 (wr.heap[gb183]? = some (.cells #[.int .i64 0, .string (⟨#[]⟩ : ByteArray), .string (⟨#[]⟩ : ByteArray), .bool false, .string (⟨#[]⟩ : ByteArray), .string (⟨#[]⟩ : ByteArray), .bool false, .bool false, .int .i64 0, .int .i64 0, .int .i64 0, .int .i64 0, .int .i64 0] 39 (0, 0))) := ⟨by rw [← hq_]; exact (by (with_reducible repeat (first | refine blk_drewN ?_ _ | refine blk_drew ?_ | refine blk_alloc ?_ _)); exact BK183.out)⟩; have n1_ : Aside0 (Below w.heap.size w wr) := ⟨by rw [← hq_]; exact (by repeat (first | (with_reducible first | exact HB.out | apply below_alloc | apply pw_below_drewN | apply below_drew1 | refine below_set ?_ GE183.out) | exact HB.out))⟩; clear BK183 HB hq_; have BK183 := n0_; have HB := n1_; clear n0_ n1_))) | ((with_reducible refine gate_callee (f := 52) rfl ?_); refine goesL_ (some 63) rfl rfl Tryd.func52 (by kernel_rfl) rfl #[.int .i64 t188] rfl (by (try simp only [List.map_toArray, List.map_cons, List.map_nil]); first | done | rfl | (simp only [List.length_drop, List.length_take]; rfl)) ?_; (with_reducible refine (r13_blank.calls t188 false _ A17.out).mono ?_); rintro e w' ⟨rfl, ⟨nd, rfl⟩⟩; refine ⟨_, rfl, ?_⟩; (try (rw [drewN_self wr]; generalize hq_ : World.drewN wr _ = wr; have n0_ : Aside0 (wr.heap[gb183]? = some (.cells #[.int .i64 0, .string (⟨#[]⟩ : ByteArray), .string (⟨#[]⟩ : ByteArray), .bool false, .string (⟨#[]⟩ : ByteArray), .string (⟨#[]⟩ : ByteArray), .bool false, .bool false, .int .i64 0, .int .i64 0, .int .i64 0, .int .i64 0, .int .i64 0] 39 (0, 0))) := ⟨by rw [← hq_]; exact (by (with_reducible repeat (first | refine blk_drewN ?_ _ | refine blk_drew ?_ | refine blk_alloc ?_ _)); exact BK183.out)⟩; have n1_ : Aside0 (Below w.heap.size w wr) := ⟨by rw [← hq_]; exact (by repeat (first | (with_reducible first | exact HB.out | apply below_alloc | apply pw_below_drewN | apply below_drew1 | refine below_set ?_ GE183.out) | exact HB.out))⟩; clear BK183 HB hq_; have BK183 := n0_; have HB := n1_; clear n0_ n1_))) | ((with_reducible refine gate_dst (N := 11) rfl ?_); refine box_event ?hg (N := 11) ?hd (cs := #[.int .i64 0, .string (⟨#[]⟩ : ByteArray), .string (⟨#[]⟩ : ByteArray), .bool false, .string (⟨#[]⟩ : ByteArray), .string (⟨#[]⟩ : ByteArray), .bool false, .bool false, .int .i64 0, .int .i64 0, .int .i64 0, .int .i64 0, .int .i64 0]) (t := 39) ?hr ?_; (case hd => rfl); (case hg => rfl); (case hr => first | (go_simp; done) | (go_simp; rfl)); intro gb190 hg w29 hbox hb; have n0_ := Aside0.mk (blk_below (g := gb183) (o := .cells #[.int .i64 0, .string (⟨#[]⟩ : ByteArray), .string (⟨#[]⟩ : ByteArray), .bool false, .string (⟨#[]⟩ : ByteArray), .string (⟨#[]⟩ : ByteArray), .bool false, .bool false, .int .i64 0, .int .i64 0, .int .i64 0, .int .i64 0, .int .i64 0] 39 (0, 0)) (by (with_reducible repeat (first | refine blk_drewN ?_ _ | refine blk_drew ?_ | refine blk_alloc ?_ _)); exact BK183.out) hb); have n1_ := Aside0.mk (below_step (by repeat (first | (with_reducible first | exact HB.out | apply below_alloc | apply pw_below_drewN | apply below_drew1 | refine below_set ?_ GE183.out) | exact HB.out)) hb); have n2_ := Aside0.mk (hbox); have n3_ := Aside0.mk ((by rw [hg]; exact (below_size (by repeat (first | (with_reducible first | exact HB.out | apply below_alloc | apply pw_below_drewN | apply below_drew1 | refine below_set ?_ GE183.out) | exact HB.out))) : w.heap.size ≤ gb190)); have n4_ := Aside0.mk ((by rw [hg]; exact (below_size (by repeat (first | (with_reducible first | exact HB.out | apply below_alloc | apply pw_below_drewN | apply below_drew1 | refine below_set ?_ GE183.out) | exact HB.out))) : w.heap.size ≤ gb190)); have n5_ := Aside0.mk ((by rw [hg]; exact Nat.ne_of_lt (blk_lt (g := gb183) (o := .cells #[.int .i64 0, .string (⟨#[]⟩ : ByteArray), .string (⟨#[]⟩ : ByteArray), .bool false, .string (⟨#[]⟩ : ByteArray), .string (⟨#[]⟩ : ByteArray), .bool false, .bool false, .int .i64 0, .int .i64 0, .int .i64 0, .int .i64 0, .int .i64 0] 39 (0, 0)) (by (with_reducible repeat (first | refine blk_drewN ?_ _ | refine blk_drew ?_ | refine blk_alloc ?_ _)); exact BK183.out)) : gb183 ≠ gb190)); have n6_ := Aside0.mk ((by rw [hg]; exact Nat.ne_of_gt (blk_lt (g := gb183) (o := .cells #[.int .i64 0, .string (⟨#[]⟩ : ByteArray), .string (⟨#[]⟩ : ByteArray), .bool false, .string (⟨#[]⟩ : ByteArray), .string (⟨#[]⟩ : ByteArray), .bool false, .bool false, .int .i64 0, .int .i64 0, .int .i64 0, .int .i64 0, .int .i64 0] 39 (0, 0)) (by (with_reducible repeat (first | refine blk_drewN ?_ _ | refine blk_drew ?_ | refine blk_alloc ?_ _)); exact BK183.out)) : gb190 ≠ gb183)); clear BK183; clear HB; have BK183 := n0_; have HB := n1_; have BK190 := n2_; have GW190 := n3_; have GE190 := n4_; have NB183_190 := n5_; have NB190_183 := n6_; clear n0_ n1_ n2_ n3_ n4_ n5_ n6_; clear hb hbox hg; have hnb30 := NB190_183.out; have hnc30 := NB183_190.out; have hcz31_0 : w29.cell? ⟨gb190, 0, none⟩ = some (.int .i64 0) := (blk_cell BK190.out 0).trans rfl; have hcz31_1 : w29.cell? ⟨gb190, 1, none⟩ = some (.string (⟨#[]⟩ : ByteArray)) := (blk_cell BK190.out 1).trans rfl; have hcz31_2 : w29.cell? ⟨gb190, 2, none⟩ = some (.string (⟨#[]⟩ : ByteArray)) := (blk_cell BK190.out 2).trans rfl; have hcz31_3 : w29.cell? ⟨gb190, 3, none⟩ = some (.bool false) := (blk_cell BK190.out 3).trans rfl; have hcz31_4 : w29.cell? ⟨gb190, 4, none⟩ = some (.string (⟨#[]⟩ : ByteArray)) := (blk_cell BK190.out 4).trans rfl; have hcz31_5 : w29.cell? ⟨gb190, 5, none⟩ = some (.string (⟨#[]⟩ : ByteArray)) := (blk_cell BK190.out 5).trans rfl; have hcz31_6 : w29.cell? ⟨gb190, 6, none⟩ = some (.bool false) := (blk_cell BK190.out 6).trans rfl; have hcz31_7 : w29.cell? ⟨gb190, 7, none⟩ = some (.bool false) := (blk_cell BK190.out 7).trans rfl; have hcz31_8 : w29.cell? ⟨gb190, 8, none⟩ = some (.int .i64 0) := (blk_cell BK190.out 8).trans rfl; have hcz31_9 : w29.cell? ⟨gb190, 9, none⟩ = some (.int .i64 0) := (blk_cell BK190.out 9).trans rfl; have hcz31_10 : w29.cell? ⟨gb190, 10, none⟩ = some (.int .i64 0) := (blk_cell BK190.out 10).trans rfl; have hcz31_11 : w29.cell? ⟨gb190, 11, none⟩ = some (.int .i64 0) := (blk_cell BK190.out 11).trans rfl; have hcz31_12 : w29.cell? ⟨gb190, 12, none⟩ = some (.int .i64 0) := (blk_cell BK190.out 12).trans rfl; have hfz31_0 := blk_frozen BK190.out 0; have hfz31_1 := blk_frozen BK190.out 1; have hfz31_2 := blk_frozen BK190.out 2; have hfz31_3 := blk_frozen BK190.out 3; have hfz31_4 := blk_frozen BK190.out 4; have hfz31_5 := blk_frozen BK190.out 5; have hfz31_6 := blk_frozen BK190.out 6; have hfz31_7 := blk_frozen BK190.out 7; have hfz31_8 := blk_frozen BK190.out 8; have hfz31_9 := blk_frozen BK190.out 9; have hfz31_10 := blk_frozen BK190.out 10; have hfz31_11 := blk_frozen BK190.out 11; have hfz31_12 := blk_frozen BK190.out 12) | ((with_reducible refine gate_store (t := 39) (p := 11) rfl ?_); refine store_all13 (t := 39) (p := 11) (v := ?vo_w32) gb190 (.int .i64 13) (.string (⟨#[32]⟩ : ByteArray)) (.string (⟨#[]⟩ : ByteArray)) (.bool false) (.string (⟨#[]⟩ : ByteArray)) (.string (⟨#[]⟩ : ByteArray)) (.bool false) (.bool false) (.int .i64 0) (.int .i64 0) (.int .i64 0) (.int .i64 0) (.int .i64 0) ?hg ?ho ?hn (by (with_reducible repeat (first | refine blk_drewN ?_ _ | refine blk_drew ?_ | refine blk_alloc ?_ _)); exact BK190.out) ?hx ?hy ?hi ?h1 ?_; (case ho => rfl); (case hg => rfl); (case hn => rfl); (case hx => first | rfl | (go_simp; done) | (go_simp; rfl)); (case hy => first | with_reducible rfl | (go_simp; done) | (go_simp; rfl)); (case hi => kernel_rfl); (case h1 => rfl); intro w32 hw; have n0_ : Aside0 (w32.heap[gb183]? = some (.cells #[.int .i64 0, .string (⟨#[]⟩ : ByteArray), .string (⟨#[]⟩ : ByteArray), .bool false, .string (⟨#[]⟩ : ByteArray), .string (⟨#[]⟩ : ByteArray), .bool false, .bool false, .int .i64 0, .int .i64 0, .int .i64 0, .int .i64 0, .int .i64 0] 39 (0, 0))) := ⟨(by rw [hw]; exact (farall13 (by (with_reducible repeat (first | refine blk_drewN ?_ _ | refine blk_drew ?_ | refine blk_alloc ?_ _)); exact BK183.out) (NB183_190.out) (.int .i64 13) (.string (⟨#[32]⟩ : ByteArray)) (.string (⟨#[]⟩ : ByteArray)) (.bool false) (.string (⟨#[]⟩ : ByteArray)) (.string (⟨#[]⟩ : ByteArray)) (.bool false) (.bool false) (.int .i64 0) (.int .i64 0) (.int .i64 0) (.int .i64 0) (.int .i64 0)))⟩; have n1_ : Aside0 (w32.heap[gb190]? = some (.cells #[.int .i64 13, .string (⟨#[32]⟩ : ByteArray), .string (⟨#[]⟩ : ByteArray), .bool false, .string (⟨#[]⟩ : ByteArray), .string (⟨#[]⟩ : ByteArray), .bool false, .bool false, .int .i64 0, .int .i64 0, .int .i64 0, .int .i64 0, .int .i64 0] 39 (0, 0))) := ⟨(by rw [hw]; exact (putall13 (by (with_reducible repeat (first | refine blk_drewN ?_ _ | refine blk_drew ?_ | refine blk_alloc ?_ _)); exact BK190.out) (.int .i64 13) (.string (⟨#[32]⟩ : ByteArray)) (.string (⟨#[]⟩ : ByteArray)) (.bool false) (.string (⟨#[]⟩ : ByteArray)) (.string (⟨#[]⟩ : ByteArray)) (.bool false) (.bool false) (.int .i64 0) (.int .i64 0) (.int .i64 0) (.int .i64 0) (.int .i64 0)))⟩; have n2_ : Aside0 (Below w.heap.size w w32) := ⟨(by rw [hw]; exact (belall13 (by repeat (first | (with_reducible first | exact HB.out | apply below_alloc | apply pw_below_drewN | apply below_drew1) | exact HB.out)) GE190.out (.int .i64 13) (.string (⟨#[32]⟩ : ByteArray)) (.string (⟨#[]⟩ : ByteArray)) (.bool false) (.string (⟨#[]⟩ : ByteArray)) (.string (⟨#[]⟩ : ByteArray)) (.bool false) (.bool false) (.int .i64 0) (.int .i64 0) (.int .i64 0) (.int .i64 0) (.int .i64 0)))⟩; clear hw; clear BK183; clear BK190; clear HB; have BK183 := n0_; have BK190 := n1_; have HB := n2_; clear n0_ n1_ n2_; have hcz33_0 : w32.cell? ⟨gb190, 0, none⟩ = some (.int .i64 13) := (blk_cell BK190.out 0).trans rfl; have hcz33_1 : w32.cell? ⟨gb190, 1, none⟩ = some (.string (⟨#[32]⟩ : ByteArray)) := (blk_cell BK190.out 1).trans rfl; have hcz33_2 : w32.cell? ⟨gb190, 2, none⟩ = some (.string (⟨#[]⟩ : ByteArray)) := (blk_cell BK190.out 2).trans rfl; have hcz33_3 : w32.cell? ⟨gb190, 3, none⟩ = some (.bool false) := (blk_cell BK190.out 3).trans rfl; have hcz33_4 : w32.cell? ⟨gb190, 4, none⟩ = some (.string (⟨#[]⟩ : ByteArray)) := (blk_cell BK190.out 4).trans rfl; have hcz33_5 : w32.cell? ⟨gb190, 5, none⟩ = some (.string (⟨#[]⟩ : ByteArray)) := (blk_cell BK190.out 5).trans rfl; have hcz33_6 : w32.cell? ⟨gb190, 6, none⟩ = some (.bool false) := (blk_cell BK190.out 6).trans rfl; have hcz33_7 : w32.cell? ⟨gb190, 7, none⟩ = some (.bool false) := (blk_cell BK190.out 7).trans rfl; have hcz33_8 : w32.cell? ⟨gb190, 8, none⟩ = some (.int .i64 0) := (blk_cell BK190.out 8).trans rfl; have hcz33_9 : w32.cell? ⟨gb190, 9, none⟩ = some (.int .i64 0) := (blk_cell BK190.out 9).trans rfl; have hcz33_10 : w32.cell? ⟨gb190, 10, none⟩ = some (.int .i64 0) := (blk_cell BK190.out 10).trans rfl; have hcz33_11 : w32.cell? ⟨gb190, 11, none⟩ = some (.int .i64 0) := (blk_cell BK190.out 11).trans rfl; have hcz33_12 : w32.cell? ⟨gb190, 12, none⟩ = some (.int .i64 0) := (blk_cell BK190.out 12).trans rfl; have hfz33_0 := blk_frozen BK190.out 0; have hfz33_1 := blk_frozen BK190.out 1; have hfz33_2 := blk_frozen BK190.out 2; have hfz33_3 := blk_frozen BK190.out 3; have hfz33_4 := blk_frozen BK190.out 4; have hfz33_5 := blk_frozen BK190.out 5; have hfz33_6 := blk_frozen BK190.out 6; have hfz33_7 := blk_frozen BK190.out 7; have hfz33_8 := blk_frozen BK190.out 8; have hfz33_9 := blk_frozen BK190.out 9; have hfz33_10 := blk_frozen BK190.out 10; have hfz33_11 := blk_frozen BK190.out 11; have hfz33_12 := blk_frozen BK190.out 12; have hcz34_0 : w32.cell? ⟨gb183, 0, none⟩ = some (.int .i64 0) := (blk_cell BK183.out 0).trans rfl; have hcz34_1 : w32.cell? ⟨gb183, 1, none⟩ = some (.string (⟨#[]⟩ : ByteArray)) := (blk_cell BK183.out 1).trans rfl; have hcz34_2 : w32.cell? ⟨gb183, 2, none⟩ = some (.string (⟨#[]⟩ : ByteArray)) := (blk_cell BK183.out 2).trans rfl; have hcz34_3 : w32.cell? ⟨gb183, 3, none⟩ = some (.bool false) := (blk_cell BK183.out 3).trans rfl; have hcz34_4 : w32.cell? ⟨gb183, 4, none⟩ = some (.string (⟨#[]⟩ : ByteArray)) := (blk_cell BK183.out 4).trans rfl; have hcz34_5 : w32.cell? ⟨gb183, 5, none⟩ = some (.string (⟨#[]⟩ : ByteArray)) := (blk_cell BK183.out 5).trans rfl; have hcz34_6 : w32.cell? ⟨gb183, 6, none⟩ = some (.bool false) := (blk_cell BK183.out 6).trans rfl; have hcz34_7 : w32.cell? ⟨gb183, 7, none⟩ = some (.bool false) := (blk_cell BK183.out 7).trans rfl; have hcz34_8 : w32.cell? ⟨gb183, 8, none⟩ = some (.int .i64 0) := (blk_cell BK183.out 8).trans rfl; have hcz34_9 : w32.cell? ⟨gb183, 9, none⟩ = some (.int .i64 0) := (blk_cell BK183.out 9).trans rfl; have hcz34_10 : w32.cell? ⟨gb183, 10, none⟩ = some (.int .i64 0) := (blk_cell BK183.out 10).trans rfl; have hcz34_11 : w32.cell? ⟨gb183, 11, none⟩ = some (.int .i64 0) := (blk_cell BK183.out 11).trans rfl; have hcz34_12 : w32.cell? ⟨gb183, 12, none⟩ = some (.int .i64 0) := (blk_cell BK183.out 12).trans rfl; have hfz34_0 := blk_frozen BK183.out 0; have hfz34_1 := blk_frozen BK183.out 1; have hfz34_2 := blk_frozen BK183.out 2; have hfz34_3 := blk_frozen BK183.out 3; have hfz34_4 := blk_frozen BK183.out 4; have hfz34_5 := blk_frozen BK183.out 5; have hfz34_6 := blk_frozen BK183.out 6; have hfz34_7 := blk_frozen BK183.out 7; have hfz34_8 := blk_frozen BK183.out 8; have hfz34_9 := blk_frozen BK183.out 9; have hfz34_10 := blk_frozen BK183.out 10; have hfz34_11 := blk_frozen BK183.out 11; have hfz34_12 := blk_frozen BK183.out 12) | ((with_reducible refine gate_store (t := 39) (p := 4) rfl ?_); refine store_all13 (t := 39) (p := 4) (v := ?vo_w35) gb183 (.int .i64 13) (.string (⟨#[32]⟩ : ByteArray)) (.string (⟨#[]⟩ : ByteArray)) (.bool false) (.string (⟨#[]⟩ : ByteArray)) (.string (⟨#[]⟩ : ByteArray)) (.bool false) (.bool false) (.int .i64 0) (.int .i64 0) (.int .i64 0) (.int .i64 0) (.int .i64 0) ?hg ?ho ?hn (by (with_reducible repeat (first | refine blk_drewN ?_ _ | refine blk_drew ?_ | refine blk_alloc ?_ _)); exact BK183.out) ?hx ?hy ?hi ?h1 ?_; (case ho => rfl); (case hg => rfl); (case hn => rfl); (case hx => first | rfl | (go_simp; done) | (go_simp; rfl)); (case hy => first | with_reducible rfl | (go_simp; done) | (go_simp; rfl)); (case hi => kernel_rfl); (case h1 => rfl); intro w35 hw; have n0_ : Aside0 (w35.heap[gb183]? = some (.cells #[.int .i64 13, .string (⟨#[32]⟩ : ByteArray), .string (⟨#[]⟩ : ByteArray), .bool false, .string (⟨#[]⟩ : ByteArray), .string (⟨#[]⟩ : ByteArray), .bool false, .bool false, .int .i64 0, .int .i64 0, .int .i64 0, .int .i64 0, .int .i64 0] 39 (0, 0))) := ⟨(by rw [hw]; exact (putall13 (by (with_reducible repeat (first | refine blk_drewN ?_ _ | refine blk_drew ?_ | refine blk_alloc ?_ _)); exact BK183.out) (.int .i64 13) (.string (⟨#[32]⟩ : ByteArray)) (.string (⟨#[]⟩ : ByteArray)) (.bool false) (.string (⟨#[]⟩ : ByteArray)) (.string (⟨#[]⟩ : ByteArray)) (.bool false) (.bool false) (.int .i64 0) (.int .i64 0) (.int .i64 0) (.int .i64 0) (.int .i64 0)))⟩; have n1_ : Aside0 (w35.heap[gb190]? = some (.cells #[.int .i64 13, .string (⟨#[32]⟩ : ByteArray), .string (⟨#[]⟩ : ByteArray), .bool false, .string (⟨#[]⟩ : ByteArray), .string (⟨#[]⟩ : ByteArray), .bool false, .bool false, .int .i64 0, .int .i64 0, .int .i64 0, .int .i64 0, .int .i64 0] 39 (0, 0))) := ⟨(by rw [hw]; exact (farall13 (by (with_reducible repeat (first | refine blk_drewN ?_ _ | refine blk_drew ?_ | refine blk_alloc ?_ _)); exact BK190.out) (NB190_183.out) (.int .i64 13) (.string (⟨#[32]⟩ : ByteArray)) (.string (⟨#[]⟩ : ByteArray)) (.bool false) (.string (⟨#[]⟩ : ByteArray)) (.string (⟨#[]⟩ : ByteArray)) (.bool false) (.bool false) (.int .i64 0) (.int .i64 0) (.int .i64 0) (.int .i64 0) (.int .i64 0)))⟩; have n2_ : Aside0 (Below w.heap.size w w35) := ⟨(by rw [hw]; exact (belall13 (by repeat (first | (with_reducible first | exact HB.out | apply below_alloc | apply pw_below_drewN | apply below_drew1) | exact HB.out)) GE183.out (.int .i64 13) (.string (⟨#[32]⟩ : ByteArray)) (.string (⟨#[]⟩ : ByteArray)) (.bool false) (.string (⟨#[]⟩ : ByteArray)) (.string (⟨#[]⟩ : ByteArray)) (.bool false) (.bool false) (.int .i64 0) (.int .i64 0) (.int .i64 0) (.int .i64 0) (.int .i64 0)))⟩; clear hw; clear BK183; clear BK190; clear HB; have BK183 := n0_; have BK190 := n1_; have HB := n2_; clear n0_ n1_ n2_))
          refine bodyPost_ret (results_ct rfl _ _ gb183 39 #[.int .i64 13, .string (⟨#[32]⟩ : ByteArray), .string (⟨#[]⟩ : ByteArray), .bool false, .string (⟨#[]⟩ : ByteArray), .string (⟨#[]⟩ : ByteArray), .bool false, .bool false, .int .i64 0, .int .i64 0, .int .i64 0, .int .i64 0, .int .i64 0] (0, 0) _ rfl (by (with_reducible repeat (first | refine blk_drewN ?_ _ | refine blk_drew ?_ | refine blk_alloc ?_ _)); exact BK183.out) Tryd.underlying39 rfl (by kernel_rfl)) rfl ?_
          exact ⟨by first | rfl | (simp [errW_none, errW_some] <;> rfl) | (simp [*, errW_none, errW_some] <;> rfl), by repeat (first | (with_reducible first | exact HB.out | apply below_alloc | apply pw_below_drewN | apply below_drew1 | refine below_set ?_ GE183.out | refine below_set ?_ GE190.out) | exact HB.out)⟩
     ·replace c15 := Bool.eq_false_iff.mpr c15
      subst c15
      have H1 : (if ((rd_T55 l0 a1).f0) = 34 then (r13_one.j2 k l0 a1 ((rd_T55 l0 a1).f0) (⟨#[58, 59, 44, 123, 125, 40, 41, 91, 93]⟩ : ByteArray) true) else (r13_one.j2 k l0 a1 ((rd_T55 l0 a1).f0) (⟨#[58, 59, 44, 123, 125, 40, 41, 91, 93]⟩ : ByteArray) (((rd_T55 l0 a1).f0) == 39))) = some (r1, r2, r3, r4, r5, r6, r7, r8, r9, r10, r11, r12, r13, r14) := by rw [if_neg (show ¬ (false = true) by decide)] at H; exact H
      clear H
      have H := H1
      clear H1
      have HC36 := Aside0.mk H
      clear H
      go_upto_region 20 with (first | ((with_reducible refine gate_callee (f := 50) rfl ?_); refine goesL_ (some 25) rfl rfl Tryd.func50 (by kernel_rfl) rfl #[.slice (some ad184) l0.length c0, .int .i64 a1, .string (⟨#[47, 42]⟩ : ByteArray)] rfl (by (try simp only [List.map_toArray, List.map_cons, List.map_nil]); first | done | rfl | (simp only [List.length_drop, List.length_take]; rfl)) ?_; (with_reducible refine (r13_follows.calls k _ _ l0 a1 (⟨#[47, 42]⟩ : ByteArray) false _ ?side1 ?side2 A7.out).mono ?_); (case side1 => repeat (first | exact (Kd.C_below HR0.out HB.out) | (with_reducible refine Kd.C_alloc ?_ _) | (with_reducible refine Kd.C_drewN ?_ _) | (with_reducible refine Kd.C_drew ?_))); (case side2 => exact HC0.out); rintro e w' ⟨rfl, ⟨nd, rfl⟩⟩; refine ⟨_, rfl, ?_⟩) | ((with_reducible refine gate_callee (f := 52) rfl ?_); refine goesL_ (some 58) rfl rfl Tryd.func52 (by kernel_rfl) rfl #[.int .i64 ((rd_T55 l0 a1).f0)] rfl (by (try simp only [List.map_toArray, List.map_cons, List.map_nil]); first | done | rfl | (simp only [List.length_drop, List.length_take]; rfl)) ?_; (with_reducible refine (r13_blank.calls ((rd_T55 l0 a1).f0) false _ A14.out).mono ?_); rintro e w' ⟨rfl, ⟨nd, rfl⟩⟩; refine ⟨_, rfl, ?_⟩))
      (try simp only [Act.put, List.setIfInBounds_toArray, List.set_cons_zero, List.set_cons_succ])
      go_cut [72] (fun v72 wc => ∃ (kq : Nat) (x72_35 : Bool), v72 = .bool x72_35 ∧ Aside0 (r13_one.j2 kq l0 a1 ((rd_T55 l0 a1).f0) (⟨#[58, 59, 44, 123, 125, 40, 41, 91, 93]⟩ : ByteArray) x72_35 = some (r1, r2, r3, r4, r5, r6, r7, r8, r9, r10, r11, r12, r13, r14)) ∧ Aside0 (kq ≤ k) ∧ Aside0 (wc.heap[gb183]? = some (.cells #[.int .i64 0, .string (⟨#[]⟩ : ByteArray), .string (⟨#[]⟩ : ByteArray), .bool false, .string (⟨#[]⟩ : ByteArray), .string (⟨#[]⟩ : ByteArray), .bool false, .bool false, .int .i64 0, .int .i64 0, .int .i64 0, .int .i64 0, .int .i64 0] 39 (0, 0))) ∧ Aside0 (Below w.heap.size w wc))
      case first => as_aux_lemma =>
       have H := HC36.out
       clear HC36
       by_cases c37 : ((rd_T55 l0 a1).f0) = 34
       ·rw [if_pos c37] at H
        have c37b0 : (((rd_T55 l0 a1).f0) == 34) = true := beq_iff_eq.mpr c37
        have c37b1 : (((rd_T55 l0 a1).f0) != 34) = false := bne_eq_false_iff_eq.mpr c37
        clear c37
        (first | rw [c37b0] | (simp only [i64_w, i32_w]; rw [c37b0]) | skip)
        have H' := Aside0.mk H
        clear H
        go_wp2
        go_meet
        case rel => exact ⟨_, (true), (by first | rfl | (simp; done) | (simp [bne_nil_]; done) | (simp [*]; done) | (simp [wrap64]; done) | (refine congrArg (Value.int .i64) ?_; unfold wrap64; omega)), H', ⟨by first | omega | exact Nat.le_refl _⟩, ⟨by (with_reducible repeat (first | refine blk_drewN ?_ _ | refine blk_drew ?_ | refine blk_alloc ?_ _)); exact BK183.out⟩, ⟨by repeat (first | (with_reducible first | exact HB.out | apply below_alloc | apply pw_below_drewN | apply below_drew1 | refine below_set ?_ GE183.out) | exact HB.out)⟩⟩
       ·rw [if_neg c37] at H
        have c37b0 : (((rd_T55 l0 a1).f0) == 34) = false := beq_eq_false_iff_ne.mpr c37
        have c37b1 : (((rd_T55 l0 a1).f0) != 34) = true := bne_iff_ne.mpr c37
        (first | rw [c37b0] | (simp only [i64_w, i32_w]; rw [c37b0]) | skip)
        have H' := Aside0.mk H
        clear H
        go_wp2
        go_meet
        case rel => exact ⟨_, ((((rd_T55 l0 a1).f0) == 39)), (by first | rfl | (simp; done) | (simp [bne_nil_]; done) | (simp [*]; done) | (simp [wrap64]; done) | (refine congrArg (Value.int .i64) ?_; unfold wrap64; omega)), H', ⟨by first | omega | exact Nat.le_refl _⟩, ⟨by (with_reducible repeat (first | refine blk_drewN ?_ _ | refine blk_drew ?_ | refine blk_alloc ?_ _)); exact BK183.out⟩, ⟨by repeat (first | (with_reducible first | exact HB.out | apply below_alloc | apply pw_below_drewN | apply below_drew1 | refine below_set ?_ GE183.out) | exact HB.out)⟩⟩
      case rest =>
       clear HC36
       try clear c1
       try clear p1
       try clear q1
       try clear hx1
       try clear c2
       try clear p2
       try clear c3
       try clear c3b0
       try clear c4
       try clear c4b0
       try clear c5
       try clear p6
       try clear c8
       try clear c9
       try clear c9b0
       try clear c11
       try clear c12
       try clear c13
       try clear c15
       try clear c18
       try clear p18
       try clear q18
       try clear hx18
       try clear c19
       try clear c19b0
       try clear c19b1
       try clear c21
       try clear c29
       try clear c30
       try clear c37
       try clear c37b0
       try clear c37b1
       try clear hcz22_0
       try clear hcz22_1
       try clear hcz22_10
       try clear hcz22_11
       try clear hcz22_12
       try clear hcz22_2
       try clear hcz22_3
       try clear hcz22_4
       try clear hcz22_5
       try clear hcz22_6
       try clear hcz22_7
       try clear hcz22_8
       try clear hcz22_9
       try clear hcz24_0
       try clear hcz24_1
       try clear hcz24_10
       try clear hcz24_11
       try clear hcz24_12
       try clear hcz24_2
       try clear hcz24_3
       try clear hcz24_4
       try clear hcz24_5
       try clear hcz24_6
       try clear hcz24_7
       try clear hcz24_8
       try clear hcz24_9
       try clear hcz26_0
       try clear hcz26_1
       try clear hcz26_10
       try clear hcz26_11
       try clear hcz26_12
       try clear hcz26_2
       try clear hcz26_3
       try clear hcz26_4
       try clear hcz26_5
       try clear hcz26_6
       try clear hcz26_7
       try clear hcz26_8
       try clear hcz26_9
       try clear hcz27_0
       try clear hcz27_1
       try clear hcz27_10
       try clear hcz27_11
       try clear hcz27_12
       try clear hcz27_2
       try clear hcz27_3
       try clear hcz27_4
       try clear hcz27_5
       try clear hcz27_6
       try clear hcz27_7
       try clear hcz27_8
       try clear hcz27_9
       try clear hcz31_0
       try clear hcz31_1
       try clear hcz31_10
       try clear hcz31_11
       try clear hcz31_12
       try clear hcz31_2
       try clear hcz31_3
       try clear hcz31_4
       try clear hcz31_5
       try clear hcz31_6
       try clear hcz31_7
       try clear hcz31_8
       try clear hcz31_9
       try clear hcz33_0
       try clear hcz33_1
       try clear hcz33_10
       try clear hcz33_11
       try clear hcz33_12
       try clear hcz33_2
       try clear hcz33_3
       try clear hcz33_4
       try clear hcz33_5
       try clear hcz33_6
       try clear hcz33_7
       try clear hcz33_8
       try clear hcz33_9
       try clear hcz34_0
       try clear hcz34_1
       try clear hcz34_10
       try clear hcz34_11
       try clear hcz34_12
       try clear hcz34_2
       try clear hcz34_3
       try clear hcz34_4
       try clear hcz34_5
       try clear hcz34_6
       try clear hcz34_7
       try clear hcz34_8
       try clear hcz34_9
       try clear hfz22_0
       try clear hfz22_1
       try clear hfz22_10
       try clear hfz22_11
       try clear hfz22_12
       try clear hfz22_2
       try clear hfz22_3
       try clear hfz22_4
       try clear hfz22_5
       try clear hfz22_6
       try clear hfz22_7
       try clear hfz22_8
       try clear hfz22_9
       try clear hfz24_0
       try clear hfz24_1
       try clear hfz24_10
       try clear hfz24_11
       try clear hfz24_12
       try clear hfz24_2
       try clear hfz24_3
       try clear hfz24_4
       try clear hfz24_5
       try clear hfz24_6
       try clear hfz24_7
       try clear hfz24_8
       try clear hfz24_9
       try clear hfz26_0
       try clear hfz26_1
       try clear hfz26_10
       try clear hfz26_11
       try clear hfz26_12
       try clear hfz26_2
       try clear hfz26_3
       try clear hfz26_4
       try clear hfz26_5
       try clear hfz26_6
       try clear hfz26_7
       try clear hfz26_8
       try clear hfz26_9
       try clear hfz27_0
       try clear hfz27_1
       try clear hfz27_10
       try clear hfz27_11
       try clear hfz27_12
       try clear hfz27_2
       try clear hfz27_3
       try clear hfz27_4
       try clear hfz27_5
       try clear hfz27_6
       try clear hfz27_7
       try clear hfz27_8
       try clear hfz27_9
       try clear hfz31_0
       try clear hfz31_1
       try clear hfz31_10
       try clear hfz31_11
       try clear hfz31_12
       try clear hfz31_2
       try clear hfz31_3
       try clear hfz31_4
       try clear hfz31_5
       try clear hfz31_6
       try clear hfz31_7
       try clear hfz31_8
       try clear hfz31_9
       try clear hfz33_0
       try clear hfz33_1
       try clear hfz33_10
       try clear hfz33_11
       try clear hfz33_12
       try clear hfz33_2
       try clear hfz33_3
       try clear hfz33_4
       try clear hfz33_5
       try clear hfz33_6
       try clear hfz33_7
       try clear hfz33_8
       try clear hfz33_9
       try clear hfz34_0
       try clear hfz34_1
       try clear hfz34_10
       try clear hfz34_11
       try clear hfz34_12
       try clear hfz34_2
       try clear hfz34_3
       try clear hfz34_4
       try clear hfz34_5
       try clear hfz34_6
       try clear hfz34_7
       try clear hfz34_8
       try clear hfz34_9
       try clear hx184_0
       try clear hx184_1
       try clear p1
       try clear p184
       try clear p2
       try clear p6
       try clear q1
       try clear q184
       obtain ⟨kq, x72_35, rfl, HA, HJ35, BK183, HB⟩ := hcut
       cases kq with
       | zero => exact absurd HA.out (by simp [r13_one.j2])
       | succ kj35 =>
        have H := HA.out
        clear HA
        simp only [r13_one.j2] at H
        by_cases c38 : x72_35 = true
        ·subst c38
         have H1 : (none) = some (r1, r2, r3, r4, r5, r6, r7, r8, r9, r10, r11, r12, r13, r14) := by rw [if_pos rfl] at H; exact H
         clear H
         have H := H1
         clear H1
         exact absurd H (by simp)
        ·replace c38 := Bool.eq_false_iff.mpr c38
         subst c38
         have H1 : (if ((rd_T55 l0 a1).f0) = 35 then ((r13_at.f l0 (wrap64 (a1 + 1))).bind fun t191 => ((r13_In.f t191).bind fun t192 => (if t192 = true then (r13_one.j3 kj35 l0 a1 ((rd_T55 l0 a1).f0) (⟨#[58, 59, 44, 123, 125, 40, 41, 91, 93]⟩ : ByteArray) true) else ((r13_escape.f l0 (wrap64 (a1 + 1))).bind fun t193 => (r13_one.j3 kj35 l0 a1 ((rd_T55 l0 a1).f0) (⟨#[58, 59, 44, 123, 125, 40, 41, 91, 93]⟩ : ByteArray) t193))))) else (r13_one.j3 kj35 l0 a1 ((rd_T55 l0 a1).f0) (⟨#[58, 59, 44, 123, 125, 40, 41, 91, 93]⟩ : ByteArray) false)) = some (r1, r2, r3, r4, r5, r6, r7, r8, r9, r10, r11, r12, r13, r14) := by rw [if_neg (show ¬ (false = true) by decide)] at H; exact H
         clear H
         have H := H1
         clear H1
         have HC39 := Aside0.mk H
         clear H
         go_upto_region 22 with (fail)
         go_cut [84] (fun v84 wc => ∃ (kq : Nat) (x84_38 : Bool), v84 = .bool x84_38 ∧ Aside0 (r13_one.j3 kq l0 a1 ((rd_T55 l0 a1).f0) (⟨#[58, 59, 44, 123, 125, 40, 41, 91, 93]⟩ : ByteArray) x84_38 = some (r1, r2, r3, r4, r5, r6, r7, r8, r9, r10, r11, r12, r13, r14)) ∧ Aside0 (kq ≤ kj35) ∧ Aside0 (wc.heap[gb183]? = some (.cells #[.int .i64 0, .string (⟨#[]⟩ : ByteArray), .string (⟨#[]⟩ : ByteArray), .bool false, .string (⟨#[]⟩ : ByteArray), .string (⟨#[]⟩ : ByteArray), .bool false, .bool false, .int .i64 0, .int .i64 0, .int .i64 0, .int .i64 0, .int .i64 0] 39 (0, 0))) ∧ Aside0 (Below w.heap.size w wc))
         case first => as_aux_lemma =>
          have H := HC39.out
          clear HC39
          by_cases c40 : ((rd_T55 l0 a1).f0) = 35
          ·rw [if_pos c40] at H
           have c40b0 : (((rd_T55 l0 a1).f0) == 35) = true := beq_iff_eq.mpr c40
           have c40b1 : (((rd_T55 l0 a1).f0) != 35) = false := bne_eq_false_iff_eq.mpr c40
           clear c40
           (first | rw [c40b0] | (simp only [i64_w, i32_w]; rw [c40b0]) | skip)
           replace H := Option.bind_eq_some_iff.mp H
           obtain ⟨t191, A410, H⟩ := H
           replace H : ((r13_In.f t191).bind fun t192 => (if t192 = true then (r13_one.j3 kj35 l0 a1 ((rd_T55 l0 a1).f0) (⟨#[58, 59, 44, 123, 125, 40, 41, 91, 93]⟩ : ByteArray) true) else ((r13_escape.f l0 (wrap64 (a1 + 1))).bind fun t193 => (r13_one.j3 kj35 l0 a1 ((rd_T55 l0 a1).f0) (⟨#[58, 59, 44, 123, 125, 40, 41, 91, 93]⟩ : ByteArray) t193)))) = some (r1, r2, r3, r4, r5, r6, r7, r8, r9, r10, r11, r12, r13, r14) := H
           have A41 := Aside0.mk A410
           clear A410
           replace H := Option.bind_eq_some_iff.mp H
           obtain ⟨t192, A420, H⟩ := H
           replace H : (if t192 = true then (r13_one.j3 kj35 l0 a1 ((rd_T55 l0 a1).f0) (⟨#[58, 59, 44, 123, 125, 40, 41, 91, 93]⟩ : ByteArray) true) else ((r13_escape.f l0 (wrap64 (a1 + 1))).bind fun t193 => (r13_one.j3 kj35 l0 a1 ((rd_T55 l0 a1).f0) (⟨#[58, 59, 44, 123, 125, 40, 41, 91, 93]⟩ : ByteArray) t193))) = some (r1, r2, r3, r4, r5, r6, r7, r8, r9, r10, r11, r12, r13, r14) := H
           have A42 := Aside0.mk A420
           clear A420
           by_cases c43 : t192 = true
           ·subst c43
            have H1 : (r13_one.j3 kj35 l0 a1 ((rd_T55 l0 a1).f0) (⟨#[58, 59, 44, 123, 125, 40, 41, 91, 93]⟩ : ByteArray) true) = some (r1, r2, r3, r4, r5, r6, r7, r8, r9, r10, r11, r12, r13, r14) := by rw [if_pos rfl] at H; exact H
            clear H
            have H := H1
            clear H1
            have H' := Aside0.mk H
            clear H
            go_wp2_with (first | (go_at_call 53; (with_reducible refine (r13_at.calls _ _ l0 (wrap64 (a1 + 1)) t191 _ ?side1 ?side2 A41.out).mono ?_); (case side1 => repeat (first | exact (Kd.C_below HR0.out HB.out) | (with_reducible refine Kd.C_alloc ?_ _) | (with_reducible refine Kd.C_drewN ?_ _) | (with_reducible refine Kd.C_drew ?_))); (case side2 => exact HC0.out); rintro e w' ⟨rfl, ⟨nd, rfl⟩⟩) | (go_at_call 55; (with_reducible refine (r13_In.calls t191 true _ A42.out).mono ?_); rintro e w' ⟨rfl, ⟨nd, rfl⟩⟩))
            go_meet
            case rel => exact ⟨_, (true), (by first | rfl | (simp; done) | (simp [bne_nil_]; done) | (simp [*]; done) | (simp [wrap64]; done) | (refine congrArg (Value.int .i64) ?_; unfold wrap64; omega)), H', ⟨by have := HJ35.out; first | omega | exact Nat.le_refl _⟩, ⟨by (with_reducible repeat (first | refine blk_drewN ?_ _ | refine blk_drew ?_ | refine blk_alloc ?_ _)); exact BK183.out⟩, ⟨by repeat (first | (with_reducible first | exact HB.out | apply below_alloc | apply pw_below_drewN | apply below_drew1 | refine below_set ?_ GE183.out) | exact HB.out)⟩⟩
           ·replace c43 := Bool.eq_false_iff.mpr c43
            subst c43
            have H1 : ((r13_escape.f l0 (wrap64 (a1 + 1))).bind fun t193 => (r13_one.j3 kj35 l0 a1 ((rd_T55 l0 a1).f0) (⟨#[58, 59, 44, 123, 125, 40, 41, 91, 93]⟩ : ByteArray) t193)) = some (r1, r2, r3, r4, r5, r6, r7, r8, r9, r10, r11, r12, r13, r14) := by rw [if_neg (show ¬ (false = true) by decide)] at H; exact H
            clear H
            have H := H1
            clear H1
            replace H := Option.bind_eq_some_iff.mp H
            obtain ⟨t193, A440, H⟩ := H
            replace H : (r13_one.j3 kj35 l0 a1 ((rd_T55 l0 a1).f0) (⟨#[58, 59, 44, 123, 125, 40, 41, 91, 93]⟩ : ByteArray) t193) = some (r1, r2, r3, r4, r5, r6, r7, r8, r9, r10, r11, r12, r13, r14) := H
            have A44 := Aside0.mk A440
            clear A440
            have H' := Aside0.mk H
            clear H
            go_wp2_with (first | (go_at_call 53; (with_reducible refine (r13_at.calls _ _ l0 (wrap64 (a1 + 1)) t191 _ ?side1 ?side2 A41.out).mono ?_); (case side1 => repeat (first | exact (Kd.C_below HR0.out HB.out) | (with_reducible refine Kd.C_alloc ?_ _) | (with_reducible refine Kd.C_drewN ?_ _) | (with_reducible refine Kd.C_drew ?_))); (case side2 => exact HC0.out); rintro e w' ⟨rfl, ⟨nd, rfl⟩⟩) | (go_at_call 55; (with_reducible refine (r13_In.calls t191 false _ A42.out).mono ?_); rintro e w' ⟨rfl, ⟨nd, rfl⟩⟩) | (go_at_call 56; (with_reducible refine (r13_escape.calls _ _ l0 (wrap64 (a1 + 1)) t193 _ ?side1 ?side2 A44.out).mono ?_); (case side1 => repeat (first | exact (Kd.C_below HR0.out (by repeat (first | (with_reducible first | exact HB.out | apply below_alloc | apply pw_below_drewN | apply below_drew1 | refine below_set ?_ GE183.out) | exact HB.out))) | (with_reducible refine Kd.C_alloc ?_ _) | (with_reducible refine Kd.C_drewN ?_ _) | (with_reducible refine Kd.C_drew ?_))); (case side2 => exact HC0.out); rintro e w' ⟨rfl, ⟨nd, rfl⟩⟩))
            go_meet
            case rel => exact ⟨_, (t193), (by first | rfl | (simp; done) | (simp [bne_nil_]; done) | (simp [*]; done) | (simp [wrap64]; done) | (refine congrArg (Value.int .i64) ?_; unfold wrap64; omega)), H', ⟨by have := HJ35.out; first | omega | exact Nat.le_refl _⟩, ⟨by (with_reducible repeat (first | refine blk_drewN ?_ _ | refine blk_drew ?_ | refine blk_alloc ?_ _)); exact BK183.out⟩, ⟨by repeat (first | (with_reducible first | exact HB.out | apply below_alloc | apply pw_below_drewN | apply below_drew1 | refine below_set ?_ GE183.out) | exact HB.out)⟩⟩
          ·rw [if_neg c40] at H
           have c40b0 : (((rd_T55 l0 a1).f0) == 35) = false := beq_eq_false_iff_ne.mpr c40
           have c40b1 : (((rd_T55 l0 a1).f0) != 35) = true := bne_iff_ne.mpr c40
           (first | rw [c40b0] | (simp only [i64_w, i32_w]; rw [c40b0]) | skip)
           have H' := Aside0.mk H
           clear H
           go_wp2
           go_meet
           case rel => exact ⟨_, (false), (by first | rfl | (simp; done) | (simp [bne_nil_]; done) | (simp [*]; done) | (simp [wrap64]; done) | (refine congrArg (Value.int .i64) ?_; unfold wrap64; omega)), H', ⟨by have := HJ35.out; first | omega | exact Nat.le_refl _⟩, ⟨by (with_reducible repeat (first | refine blk_drewN ?_ _ | refine blk_drew ?_ | refine blk_alloc ?_ _)); exact BK183.out⟩, ⟨by repeat (first | (with_reducible first | exact HB.out | apply below_alloc | apply pw_below_drewN | apply below_drew1 | refine below_set ?_ GE183.out) | exact HB.out)⟩⟩
         case rest =>
          clear HC39
          try clear c1
          try clear p1
          try clear q1
          try clear hx1
          try clear c2
          try clear p2
          try clear c3
          try clear c3b0
          try clear c4
          try clear c4b0
          try clear c5
          try clear p6
          try clear c8
          try clear c9
          try clear c9b0
          try clear c11
          try clear c12
          try clear c13
          try clear c15
          try clear c18
          try clear p18
          try clear q18
          try clear hx18
          try clear c19
          try clear c19b0
          try clear c19b1
          try clear c21
          try clear c29
          try clear c30
          try clear c37
          try clear c37b0
          try clear c37b1
          try clear c38
          try clear c40
          try clear c40b0
          try clear c40b1
          try clear c43
          try clear hcz22_0
          try clear hcz22_1
          try clear hcz22_10
          try clear hcz22_11
          try clear hcz22_12
          try clear hcz22_2
          try clear hcz22_3
          try clear hcz22_4
          try clear hcz22_5
          try clear hcz22_6
          try clear hcz22_7
          try clear hcz22_8
          try clear hcz22_9
          try clear hcz24_0
          try clear hcz24_1
          try clear hcz24_10
          try clear hcz24_11
          try clear hcz24_12
          try clear hcz24_2
          try clear hcz24_3
          try clear hcz24_4
          try clear hcz24_5
          try clear hcz24_6
          try clear hcz24_7
          try clear hcz24_8
          try clear hcz24_9
          try clear hcz26_0
          try clear hcz26_1
          try clear hcz26_10
          try clear hcz26_11
          try clear hcz26_12
          try clear hcz26_2
          try clear hcz26_3
          try clear hcz26_4
          try clear hcz26_5
          try clear hcz26_6
          try clear hcz26_7
          try clear hcz26_8
          try clear hcz26_9
          try clear hcz27_0
          try clear hcz27_1
          try clear hcz27_10
          try clear hcz27_11
          try clear hcz27_12
          try clear hcz27_2
          try clear hcz27_3
          try clear hcz27_4
          try clear hcz27_5
          try clear hcz27_6
          try clear hcz27_7
          try clear hcz27_8
          try clear hcz27_9
          try clear hcz31_0
          try clear hcz31_1
          try clear hcz31_10
          try clear hcz31_11
          try clear hcz31_12
          try clear hcz31_2
          try clear hcz31_3
          try clear hcz31_4
          try clear hcz31_5
          try clear hcz31_6
          try clear hcz31_7
          try clear hcz31_8
          try clear hcz31_9
          try clear hcz33_0
          try clear hcz33_1
          try clear hcz33_10
          try clear hcz33_11
          try clear hcz33_12
          try clear hcz33_2
          try clear hcz33_3
          try clear hcz33_4
          try clear hcz33_5
          try clear hcz33_6
          try clear hcz33_7
          try clear hcz33_8
          try clear hcz33_9
          try clear hcz34_0
          try clear hcz34_1
          try clear hcz34_10
          try clear hcz34_11
          try clear hcz34_12
          try clear hcz34_2
          try clear hcz34_3
          try clear hcz34_4
          try clear hcz34_5
          try clear hcz34_6
          try clear hcz34_7
          try clear hcz34_8
          try clear hcz34_9
          try clear hfz22_0
          try clear hfz22_1
          try clear hfz22_10
          try clear hfz22_11
          try clear hfz22_12
          try clear hfz22_2
          try clear hfz22_3
          try clear hfz22_4
          try clear hfz22_5
          try clear hfz22_6
          try clear hfz22_7
          try clear hfz22_8
          try clear hfz22_9
          try clear hfz24_0
          try clear hfz24_1
          try clear hfz24_10
          try clear hfz24_11
          try clear hfz24_12
          try clear hfz24_2
          try clear hfz24_3
          try clear hfz24_4
          try clear hfz24_5
          try clear hfz24_6
          try clear hfz24_7
          try clear hfz24_8
          try clear hfz24_9
          try clear hfz26_0
          try clear hfz26_1
          try clear hfz26_10
          try clear hfz26_11
          try clear hfz26_12
          try clear hfz26_2
          try clear hfz26_3
          try clear hfz26_4
          try clear hfz26_5
          try clear hfz26_6
          try clear hfz26_7
          try clear hfz26_8
          try clear hfz26_9
          try clear hfz27_0
          try clear hfz27_1
          try clear hfz27_10
          try clear hfz27_11
          try clear hfz27_12
          try clear hfz27_2
          try clear hfz27_3
          try clear hfz27_4
          try clear hfz27_5
          try clear hfz27_6
          try clear hfz27_7
          try clear hfz27_8
          try clear hfz27_9
          try clear hfz31_0
          try clear hfz31_1
          try clear hfz31_10
          try clear hfz31_11
          try clear hfz31_12
          try clear hfz31_2
          try clear hfz31_3
          try clear hfz31_4
          try clear hfz31_5
          try clear hfz31_6
          try clear hfz31_7
          try clear hfz31_8
          try clear hfz31_9
          try clear hfz33_0
          try clear hfz33_1
          try clear hfz33_10
          try clear hfz33_11
          try clear hfz33_12
          try clear hfz33_2
          try clear hfz33_3
          try clear hfz33_4
          try clear hfz33_5
          try clear hfz33_6
          try clear hfz33_7
          try clear hfz33_8
          try clear hfz33_9
          try clear hfz34_0
          try clear hfz34_1
          try clear hfz34_10
          try clear hfz34_11
          try clear hfz34_12
          try clear hfz34_2
          try clear hfz34_3
          try clear hfz34_4
          try clear hfz34_5
          try clear hfz34_6
          try clear hfz34_7
          try clear hfz34_8
          try clear hfz34_9
          try clear hx184_0
          try clear hx184_1
          try clear p1
          try clear p18
          try clear p184
          try clear p2
          try clear p6
          try clear q1
          try clear q18
          try clear q184
          obtain ⟨kq, x84_38, rfl, HA, HJ38, BK183, HB⟩ := hcut
          cases kq with
          | zero => exact absurd HA.out (by simp [r13_one.j3])
          | succ kj38 =>
           have H := HA.out
           clear HA
           simp only [r13_one.j3] at H
           by_cases c45 : x84_38 = true
           ·subst c45
            have H1 : ((r13_Take.f kj38 l0 (wrap64 (a1 + 1))).bind fun bt194 => ((r13_Begins.f kj38 l0 (wrap64 (a1 + 1))).bind fun t196 => (some (4, bt194.1, (⟨#[]⟩ : ByteArray), false, (⟨#[]⟩ : ByteArray), (⟨#[]⟩ : ByteArray), t196, false, 0, 0, 0, 0, 0, bt194.2)))) = some (r1, r2, r3, r4, r5, r6, r7, r8, r9, r10, r11, r12, r13, r14) := by rw [if_pos rfl] at H; exact H
            clear H
            have H := H1
            clear H1
            replace H := Option.bind_eq_some_iff.mp H
            obtain ⟨⟨t194, t195⟩, A460, H⟩ := H
            replace H : ((r13_Begins.f kj38 l0 (wrap64 (a1 + 1))).bind fun t196 => (some (4, t194, (⟨#[]⟩ : ByteArray), false, (⟨#[]⟩ : ByteArray), (⟨#[]⟩ : ByteArray), t196, false, 0, 0, 0, 0, 0, t195))) = some (r1, r2, r3, r4, r5, r6, r7, r8, r9, r10, r11, r12, r13, r14) := H
            have A46 := Aside0.mk A460
            clear A460
            replace H := Option.bind_eq_some_iff.mp H
            obtain ⟨t196, A470, H⟩ := H
            replace H : (some (4, t194, (⟨#[]⟩ : ByteArray), false, (⟨#[]⟩ : ByteArray), (⟨#[]⟩ : ByteArray), t196, false, 0, 0, 0, 0, 0, t195)) = some (r1, r2, r3, r4, r5, r6, r7, r8, r9, r10, r11, r12, r13, r14) := H
            have A47 := Aside0.mk A470
            clear A470
            simp only [Option.some.injEq, Prod.mk.injEq] at H
            obtain ⟨rfl, rfl, rfl, rfl, rfl, rfl, rfl, rfl, rfl, rfl, rfl, rfl, rfl, rfl⟩ := H
            go_wp2_with (first | ((with_reducible refine gate_callee (f := 57) rfl ?_); refine goesL_ (some 104) rfl rfl Tryd.func57 (by kernel_rfl) rfl #[.slice (some ad184) l0.length c0, .int .i64 (wrap64 (a1 + 1))] rfl (by (try simp only [List.map_toArray, List.map_cons, List.map_nil]); first | done | rfl | (simp only [List.length_drop, List.length_take]; rfl)) ?_; (with_reducible refine (r13_Take.calls kj38 _ _ l0 (wrap64 (a1 + 1)) t194 t195 _ ?side1 ?side2 A46.out).mono ?_); (case side1 => repeat (first | exact (Kd.C_below HR0.out HB.out) | (with_reducible refine Kd.C_alloc ?_ _) | (with_reducible refine Kd.C_drewN ?_ _) | (with_reducible refine Kd.C_drew ?_))); (case side2 => exact HC0.out); rintro e w48 ⟨rfl, hb⟩; refine ⟨_, rfl, ?_⟩; have n0_ := Aside0.mk (blk_below (g := gb183) (o := .cells #[.int .i64 0, .string (⟨#[]⟩ : ByteArray), .string (⟨#[]⟩ : ByteArray), .bool false, .string (⟨#[]⟩ : ByteArray), .string (⟨#[]⟩ : ByteArray), .bool false, .bool false, .int .i64 0, .int .i64 0, .int .i64 0, .int .i64 0, .int .i64 0] 39 (0, 0)) (by (with_reducible repeat (first | refine blk_drewN ?_ _ | refine blk_drew ?_ | refine blk_alloc ?_ _)); exact BK183.out) hb); have n1_ := Aside0.mk (below_step (by repeat (first | (with_reducible first | exact HB.out | apply below_alloc | apply pw_below_drewN | apply below_drew1 | refine below_set ?_ GE183.out) | exact HB.out)) hb); clear BK183; clear HB; have BK183 := n0_; have HB := n1_; clear n0_ n1_; (try clear hb); (try clear hb2); (try clear hk); (try clear hi)) | ((with_reducible refine gate_callee (f := 58) rfl ?_); refine goesL_ (some 111) rfl rfl Tryd.func58 (by kernel_rfl) rfl #[.slice (some ad184) l0.length c0, .int .i64 (wrap64 (a1 + 1))] rfl (by (try simp only [List.map_toArray, List.map_cons, List.map_nil]); first | done | rfl | (simp only [List.length_drop, List.length_take]; rfl)) ?_; (with_reducible refine (r13_Begins.calls kj38 _ _ l0 (wrap64 (a1 + 1)) t196 _ ?side1 ?side2 A47.out).mono ?_); (case side1 => repeat (first | exact (Kd.C_below HR0.out HB.out) | (with_reducible refine Kd.C_alloc ?_ _) | (with_reducible refine Kd.C_drewN ?_ _) | (with_reducible refine Kd.C_drew ?_))); (case side2 => exact HC0.out); rintro e w' ⟨rfl, ⟨nd, rfl⟩⟩; refine ⟨_, rfl, ?_⟩; (try (rw [drewN_self w48]; generalize hq_ : World.drewN w48 _ = w48; have n0_ : Aside0 (w48.heap[gb183]? = some (.cells #[.int .i64 0, .string (⟨#[]⟩ : ByteArray), .string (⟨#[]⟩ : ByteArray), .bool false, .string (⟨#[]⟩ : ByteArray), .string (⟨#[]⟩ : ByteArray), .bool false, .bool false, .int .i64 0, .int .i64 0, .int .i64 0, .int .i64 0, .int .i64 0] 39 (0, 0))) := ⟨by rw [← hq_]; exact (by (with_reducible repeat (first | refine blk_drewN ?_ _ | refine blk_drew ?_ | refine blk_alloc ?_ _)); exact BK183.out)⟩; have n1_ : Aside0 (Below w.heap.size w w48) := ⟨by rw [← hq_]; exact (by repeat (first | (with_reducible first | exact HB.out | apply below_alloc | apply pw_below_drewN | apply below_drew1 | refine below_set ?_ GE183.out) | exact HB.out))⟩; clear BK183 HB hq_; have BK183 := n0_; have HB := n1_; clear n0_ n1_)); have hcz49_0 : w48.cell? ⟨gb183, 0, none⟩ = some (.int .i64 0) := (blk_cell BK183.out 0).trans rfl; have hcz49_1 : w48.cell? ⟨gb183, 1, none⟩ = some (.string (⟨#[]⟩ : ByteArray)) := (blk_cell BK183.out 1).trans rfl; have hcz49_2 : w48.cell? ⟨gb183, 2, none⟩ = some (.string (⟨#[]⟩ : ByteArray)) := (blk_cell BK183.out 2).trans rfl; have hcz49_3 : w48.cell? ⟨gb183, 3, none⟩ = some (.bool false) := (blk_cell BK183.out 3).trans rfl; have hcz49_4 : w48.cell? ⟨gb183, 4, none⟩ = some (.string (⟨#[]⟩ : ByteArray)) := (blk_cell BK183.out 4).trans rfl; have hcz49_5 : w48.cell? ⟨gb183, 5, none⟩ = some (.string (⟨#[]⟩ : ByteArray)) := (blk_cell BK183.out 5).trans rfl; have hcz49_6 : w48.cell? ⟨gb183, 6, none⟩ = some (.bool false) := (blk_cell BK183.out 6).trans rfl; have hcz49_7 : w48.cell? ⟨gb183, 7, none⟩ = some (.bool false) := (blk_cell BK183.out 7).trans rfl; have hcz49_8 : w48.cell? ⟨gb183, 8, none⟩ = some (.int .i64 0) := (blk_cell BK183.out 8).trans rfl; have hcz49_9 : w48.cell? ⟨gb183, 9, none⟩ = some (.int .i64 0) := (blk_cell BK183.out 9).trans rfl; have hcz49_10 : w48.cell? ⟨gb183, 10, none⟩ = some (.int .i64 0) := (blk_cell BK183.out 10).trans rfl; have hcz49_11 : w48.cell? ⟨gb183, 11, none⟩ = some (.int .i64 0) := (blk_cell BK183.out 11).trans rfl; have hcz49_12 : w48.cell? ⟨gb183, 12, none⟩ = some (.int .i64 0) := (blk_cell BK183.out 12).trans rfl; have hfz49_0 := blk_frozen BK183.out 0; have hfz49_1 := blk_frozen BK183.out 1; have hfz49_2 := blk_frozen BK183.out 2; have hfz49_3 := blk_frozen BK183.out 3; have hfz49_4 := blk_frozen BK183.out 4; have hfz49_5 := blk_frozen BK183.out 5; have hfz49_6 := blk_frozen BK183.out 6; have hfz49_7 := blk_frozen BK183.out 7; have hfz49_8 := blk_frozen BK183.out 8; have hfz49_9 := blk_frozen BK183.out 9; have hfz49_10 := blk_frozen BK183.out 10; have hfz49_11 := blk_frozen BK183.out 11; have hfz49_12 := blk_frozen BK183.out 12) | ((with_reducible refine gate_store (t := 39) (p := 4) rfl ?_); refine store_all13 (t := 39) (p := 4) (v := ?vo_w50) gb183 (.int .i64 4) (.string t194) (.string (⟨#[]⟩ : ByteArray)) (.bool false) (.string (⟨#[]⟩ : ByteArray)) (.string (⟨#[]⟩ : ByteArray)) (.bool t196) (.bool false) (.int .i64 0) (.int .i64 0) (.int .i64 0) (.int .i64 0) (.int .i64 0) ?hg ?ho ?hn (by (with_reducible repeat (first | refine blk_drewN ?_ _ | refine blk_drew ?_ | refine blk_alloc ?_ _)); exact BK183.out) ?hx ?hy ?hi ?h1 ?_; (case ho => rfl); (case hg => rfl); (case hn => rfl); (case hx => first | rfl | (go_simp; done) | (go_simp; rfl)); (case hy => first | with_reducible rfl | (go_simp; done) | (go_simp; rfl)); (case hi => kernel_rfl); (case h1 => rfl); intro w50 hw; have n0_ : Aside0 (w50.heap[gb183]? = some (.cells #[.int .i64 4, .string t194, .string (⟨#[]⟩ : ByteArray), .bool false, .string (⟨#[]⟩ : ByteArray), .string (⟨#[]⟩ : ByteArray), .bool t196, .bool false, .int .i64 0, .int .i64 0, .int .i64 0, .int .i64 0, .int .i64 0] 39 (0, 0))) := ⟨(by rw [hw]; exact (putall13 (by (with_reducible repeat (first | refine blk_drewN ?_ _ | refine blk_drew ?_ | refine blk_alloc ?_ _)); exact BK183.out) (.int .i64 4) (.string t194) (.string (⟨#[]⟩ : ByteArray)) (.bool false) (.string (⟨#[]⟩ : ByteArray)) (.string (⟨#[]⟩ : ByteArray)) (.bool t196) (.bool false) (.int .i64 0) (.int .i64 0) (.int .i64 0) (.int .i64 0) (.int .i64 0)))⟩; have n1_ : Aside0 (Below w.heap.size w w50) := ⟨(by rw [hw]; exact (belall13 (by repeat (first | (with_reducible first | exact HB.out | apply below_alloc | apply pw_below_drewN | apply below_drew1) | exact HB.out)) GE183.out (.int .i64 4) (.string t194) (.string (⟨#[]⟩ : ByteArray)) (.bool false) (.string (⟨#[]⟩ : ByteArray)) (.string (⟨#[]⟩ : ByteArray)) (.bool t196) (.bool false) (.int .i64 0) (.int .i64 0) (.int .i64 0) (.int .i64 0) (.int .i64 0)))⟩; clear hw; clear BK183; clear HB; have BK183 := n0_; have HB := n1_; clear n0_ n1_))
            refine bodyPost_ret (results_ct rfl _ _ gb183 39 #[.int .i64 4, .string t194, .string (⟨#[]⟩ : ByteArray), .bool false, .string (⟨#[]⟩ : ByteArray), .string (⟨#[]⟩ : ByteArray), .bool t196, .bool false, .int .i64 0, .int .i64 0, .int .i64 0, .int .i64 0, .int .i64 0] (0, 0) _ rfl (by (with_reducible repeat (first | refine blk_drewN ?_ _ | refine blk_drew ?_ | refine blk_alloc ?_ _)); exact BK183.out) Tryd.underlying39 rfl (by kernel_rfl)) rfl ?_
            exact ⟨by first | rfl | (simp [errW_none, errW_some] <;> rfl) | (simp [*, errW_none, errW_some] <;> rfl), by repeat (first | (with_reducible first | exact HB.out | apply below_alloc | apply pw_below_drewN | apply below_drew1 | refine below_set ?_ GE183.out) | exact HB.out)⟩
           ·replace c45 := Bool.eq_false_iff.mpr c45
            subst c45
            have H1 : ((r13_numeral.f kj38 l0 a1).bind fun t197 => (if t197 = true then (none) else ((r13_follows.f kj38 l0 a1 (⟨#[45, 45, 62]⟩ : ByteArray)).bind fun t198 => (if t198 = true then (some (15, (⟨#[]⟩ : ByteArray), (⟨#[]⟩ : ByteArray), false, (⟨#[]⟩ : ByteArray), (⟨#[]⟩ : ByteArray), false, false, 0, 0, 0, 0, 0, wrap64 (a1 + 3))) else ((r13_follows.f kj38 l0 a1 (⟨#[60, 33, 45, 45]⟩ : ByteArray)).bind fun t199 => (if t199 = true then (some (14, (⟨#[]⟩ : ByteArray), (⟨#[]⟩ : ByteArray), false, (⟨#[]⟩ : ByteArray), (⟨#[]⟩ : ByteArray), false, false, 0, 0, 0, 0, 0, wrap64 (a1 + 4))) else ((r13_Begins.f kj38 l0 a1).bind fun t200 => (if t200 = true then ((r13_named.f kj38 l0 a1).bind fun bt201 => (some (bt201.1, bt201.2.1, bt201.2.2.1, bt201.2.2.2.1, bt201.2.2.2.2.1, bt201.2.2.2.2.2.1, bt201.2.2.2.2.2.2.1, bt201.2.2.2.2.2.2.2.1, bt201.2.2.2.2.2.2.2.2.1, bt201.2.2.2.2.2.2.2.2.2.1, bt201.2.2.2.2.2.2.2.2.2.2.1, bt201.2.2.2.2.2.2.2.2.2.2.2.1, bt201.2.2.2.2.2.2.2.2.2.2.2.2.1, bt201.2.2.2.2.2.2.2.2.2.2.2.2.2))) else (if ((rd_T55 l0 a1).f0) = 64 then ((r13_Begins.f kj38 l0 (wrap64 (a1 + 1))).bind fun t215 => (if t215 = true then ((r13_Take.f kj38 l0 (wrap64 (a1 + 1))).bind fun bt216 => (some (3, bt216.1, (⟨#[]⟩ : ByteArray), false, (⟨#[]⟩ : ByteArray), (⟨#[]⟩ : ByteArray), false, false, 0, 0, 0, 0, 0, bt216.2))) else (r13_one.j4 kj38 a1 ((rd_T55 l0 a1).f0) (⟨#[58, 59, 44, 123, 125, 40, 41, 91, 93]⟩ : ByteArray)))) else (r13_one.j4 kj38 a1 ((rd_T55 l0 a1).f0) (⟨#[58, 59, 44, 123, 125, 40, 41, 91, 93]⟩ : ByteArray))))))))))) = some (r1, r2, r3, r4, r5, r6, r7, r8, r9, r10, r11, r12, r13, r14) := by rw [if_neg (show ¬ (false = true) by decide)] at H; exact H
            clear H
            have H := H1
            clear H1
            replace H := Option.bind_eq_some_iff.mp H
            obtain ⟨t197, A510, H⟩ := H
            replace H : (if t197 = true then (none) else ((r13_follows.f kj38 l0 a1 (⟨#[45, 45, 62]⟩ : ByteArray)).bind fun t198 => (if t198 = true then (some (15, (⟨#[]⟩ : ByteArray), (⟨#[]⟩ : ByteArray), false, (⟨#[]⟩ : ByteArray), (⟨#[]⟩ : ByteArray), false, false, 0, 0, 0, 0, 0, wrap64 (a1 + 3))) else ((r13_follows.f kj38 l0 a1 (⟨#[60, 33, 45, 45]⟩ : ByteArray)).bind fun t199 => (if t199 = true then (some (14, (⟨#[]⟩ : ByteArray), (⟨#[]⟩ : ByteArray), false, (⟨#[]⟩ : ByteArray), (⟨#[]⟩ : ByteArray), false, false, 0, 0, 0, 0, 0, wrap64 (a1 + 4))) else ((r13_Begins.f kj38 l0 a1).bind fun t200 => (if t200 = true then ((r13_named.f kj38 l0 a1).bind fun bt201 => (some (bt201.1, bt201.2.1, bt201.2.2.1, bt201.2.2.2.1, bt201.2.2.2.2.1, bt201.2.2.2.2.2.1, bt201.2.2.2.2.2.2.1, bt201.2.2.2.2.2.2.2.1, bt201.2.2.2.2.2.2.2.2.1, bt201.2.2.2.2.2.2.2.2.2.1, bt201.2.2.2.2.2.2.2.2.2.2.1, bt201.2.2.2.2.2.2.2.2.2.2.2.1, bt201.2.2.2.2.2.2.2.2.2.2.2.2.1, bt201.2.2.2.2.2.2.2.2.2.2.2.2.2))) else (if ((rd_T55 l0 a1).f0) = 64 then ((r13_Begins.f kj38 l0 (wrap64 (a1 + 1))).bind fun t215 => (if t215 = true then ((r13_Take.f kj38 l0 (wrap64 (a1 + 1))).bind fun bt216 => (some (3, bt216.1, (⟨#[]⟩ : ByteArray), false, (⟨#[]⟩ : ByteArray), (⟨#[]⟩ : ByteArray), false, false, 0, 0, 0, 0, 0, bt216.2))) else (r13_one.j4 kj38 a1 ((rd_T55 l0 a1).f0) (⟨#[58, 59, 44, 123, 125, 40, 41, 91, 93]⟩ : ByteArray)))) else (r13_one.j4 kj38 a1 ((rd_T55 l0 a1).f0) (⟨#[58, 59, 44, 123, 125, 40, 41, 91, 93]⟩ : ByteArray)))))))))) = some (r1, r2, r3, r4, r5, r6, r7, r8, r9, r10, r11, r12, r13, r14) := H
            have A51 := Aside0.mk A510
            clear A510
            by_cases c52 : t197 = true
            ·subst c52
             have H1 : (none) = some (r1, r2, r3, r4, r5, r6, r7, r8, r9, r10, r11, r12, r13, r14) := by rw [if_pos rfl] at H; exact H
             clear H
             have H := H1
             clear H1
             exact absurd H (by simp)
            ·replace c52 := Bool.eq_false_iff.mpr c52
             subst c52
             have H1 : ((r13_follows.f kj38 l0 a1 (⟨#[45, 45, 62]⟩ : ByteArray)).bind fun t198 => (if t198 = true then (some (15, (⟨#[]⟩ : ByteArray), (⟨#[]⟩ : ByteArray), false, (⟨#[]⟩ : ByteArray), (⟨#[]⟩ : ByteArray), false, false, 0, 0, 0, 0, 0, wrap64 (a1 + 3))) else ((r13_follows.f kj38 l0 a1 (⟨#[60, 33, 45, 45]⟩ : ByteArray)).bind fun t199 => (if t199 = true then (some (14, (⟨#[]⟩ : ByteArray), (⟨#[]⟩ : ByteArray), false, (⟨#[]⟩ : ByteArray), (⟨#[]⟩ : ByteArray), false, false, 0, 0, 0, 0, 0, wrap64 (a1 + 4))) else ((r13_Begins.f kj38 l0 a1).bind fun t200 => (if t200 = true then ((r13_named.f kj38 l0 a1).bind fun bt201 => (some (bt201.1, bt201.2.1, bt201.2.2.1, bt201.2.2.2.1, bt201.2.2.2.2.1, bt201.2.2.2.2.2.1, bt201.2.2.2.2.2.2.1, bt201.2.2.2.2.2.2.2.1, bt201.2.2.2.2.2.2.2.2.1, bt201.2.2.2.2.2.2.2.2.2.1, bt201.2.2.2.2.2.2.2.2.2.2.1, bt201.2.2.2.2.2.2.2.2.2.2.2.1, bt201.2.2.2.2.2.2.2.2.2.2.2.2.1, bt201.2.2.2.2.2.2.2.2.2.2.2.2.2))) else (if ((rd_T55 l0 a1).f0) = 64 then ((r13_Begins.f kj38 l0 (wrap64 (a1 + 1))).bind fun t215 => (if t215 = true then ((r13_Take.f kj38 l0 (wrap64 (a1 + 1))).bind fun bt216 => (some (3, bt216.1, (⟨#[]⟩ : ByteArray), false, (⟨#[]⟩ : ByteArray), (⟨#[]⟩ : ByteArray), false, false, 0, 0, 0, 0, 0, bt216.2))) else (r13_one.j4 kj38 a1 ((rd_T55 l0 a1).f0) (⟨#[58, 59, 44, 123, 125, 40, 41, 91, 93]⟩ : ByteArray)))) else (r13_one.j4 kj38 a1 ((rd_T55 l0 a1).f0) (⟨#[58, 59, 44, 123, 125, 40, 41, 91, 93]⟩ : ByteArray))))))))) = some (r1, r2, r3, r4, r5, r6, r7, r8, r9, r10, r11, r12, r13, r14) := by rw [if_neg (show ¬ (false = true) by decide)] at H; exact H
             clear H
             have H := H1
             clear H1
             replace H := Option.bind_eq_some_iff.mp H
             obtain ⟨t198, A530, H⟩ := H
             replace H : (if t198 = true then (some (15, (⟨#[]⟩ : ByteArray), (⟨#[]⟩ : ByteArray), false, (⟨#[]⟩ : ByteArray), (⟨#[]⟩ : ByteArray), false, false, 0, 0, 0, 0, 0, wrap64 (a1 + 3))) else ((r13_follows.f kj38 l0 a1 (⟨#[60, 33, 45, 45]⟩ : ByteArray)).bind fun t199 => (if t199 = true then (some (14, (⟨#[]⟩ : ByteArray), (⟨#[]⟩ : ByteArray), false, (⟨#[]⟩ : ByteArray), (⟨#[]⟩ : ByteArray), false, false, 0, 0, 0, 0, 0, wrap64 (a1 + 4))) else ((r13_Begins.f kj38 l0 a1).bind fun t200 => (if t200 = true then ((r13_named.f kj38 l0 a1).bind fun bt201 => (some (bt201.1, bt201.2.1, bt201.2.2.1, bt201.2.2.2.1, bt201.2.2.2.2.1, bt201.2.2.2.2.2.1, bt201.2.2.2.2.2.2.1, bt201.2.2.2.2.2.2.2.1, bt201.2.2.2.2.2.2.2.2.1, bt201.2.2.2.2.2.2.2.2.2.1, bt201.2.2.2.2.2.2.2.2.2.2.1, bt201.2.2.2.2.2.2.2.2.2.2.2.1, bt201.2.2.2.2.2.2.2.2.2.2.2.2.1, bt201.2.2.2.2.2.2.2.2.2.2.2.2.2))) else (if ((rd_T55 l0 a1).f0) = 64 then ((r13_Begins.f kj38 l0 (wrap64 (a1 + 1))).bind fun t215 => (if t215 = true then ((r13_Take.f kj38 l0 (wrap64 (a1 + 1))).bind fun bt216 => (some (3, bt216.1, (⟨#[]⟩ : ByteArray), false, (⟨#[]⟩ : ByteArray), (⟨#[]⟩ : ByteArray), false, false, 0, 0, 0, 0, 0, bt216.2))) else (r13_one.j4 kj38 a1 ((rd_T55 l0 a1).f0) (⟨#[58, 59, 44, 123, 125, 40, 41, 91, 93]⟩ : ByteArray)))) else (r13_one.j4 kj38 a1 ((rd_T55 l0 a1).f0) (⟨#[58, 59, 44, 123, 125, 40, 41, 91, 93]⟩ : ByteArray)))))))) = some (r1, r2, r3, r4, r5, r6, r7, r8, r9, r10, r11, r12, r13, r14) := H
             have A53 := Aside0.mk A530
             clear A530
             by_cases c54 : t198 = true
             ·subst c54
              have H1 : (some (15, (⟨#[]⟩ : ByteArray), (⟨#[]⟩ : ByteArray), false, (⟨#[]⟩ : ByteArray), (⟨#[]⟩ : ByteArray), false, false, 0, 0, 0, 0, 0, wrap64 (a1 + 3))) = some (r1, r2, r3, r4, r5, r6, r7, r8, r9, r10, r11, r12, r13, r14) := by rw [if_pos rfl] at H; exact H
              clear H
              have H := H1
              clear H1
              simp only [Option.some.injEq, Prod.mk.injEq] at H
              obtain ⟨rfl, rfl, rfl, rfl, rfl, rfl, rfl, rfl, rfl, rfl, rfl, rfl, rfl, rfl⟩ := H
              go_wp2_with (first | ((with_reducible refine gate_callee (f := 59) rfl ?_); refine goesL_ (some 117) rfl rfl Tryd.func59 (by kernel_rfl) rfl #[.slice (some ad184) l0.length c0, .int .i64 a1] rfl (by (try simp only [List.map_toArray, List.map_cons, List.map_nil]); first | done | rfl | (simp only [List.length_drop, List.length_take]; rfl)) ?_; (with_reducible refine (r13_numeral.calls kj38 _ _ l0 a1 false _ ?side1 ?side2 A51.out).mono ?_); (case side1 => repeat (first | exact (Kd.C_below HR0.out HB.out) | (with_reducible refine Kd.C_alloc ?_ _) | (with_reducible refine Kd.C_drewN ?_ _) | (with_reducible refine Kd.C_drew ?_))); (case side2 => exact HC0.out); rintro e w' ⟨rfl, ⟨nd, rfl⟩⟩; refine ⟨_, rfl, ?_⟩; (try (rw [drewN_self wc]; generalize hq_ : World.drewN wc _ = wc; have n0_ : Aside0 (wc.heap[gb183]? = some (.cells #[.int .i64 0, .string (⟨#[]⟩ : ByteArray), .string (⟨#[]⟩ : ByteArray), .bool false, .string (⟨#[]⟩ : ByteArray), .string (⟨#[]⟩ : ByteArray), .bool false, .bool false, .int .i64 0, .int .i64 0, .int .i64 0, .int .i64 0, .int .i64 0] 39 (0, 0))) := ⟨by rw [← hq_]; exact (by (with_reducible repeat (first | refine blk_drewN ?_ _ | refine blk_drew ?_ | refine blk_alloc ?_ _)); exact BK183.out)⟩; have n1_ : Aside0 (Below w.heap.size w wc) := ⟨by rw [← hq_]; exact (by repeat (first | (with_reducible first | exact HB.out | apply below_alloc | apply pw_below_drewN | apply below_drew1 | refine below_set ?_ GE183.out) | exact HB.out))⟩; clear BK183 HB hq_; have BK183 := n0_; have HB := n1_; clear n0_ n1_))) | ((with_reducible refine gate_callee (f := 50) rfl ?_); refine goesL_ (some 126) rfl rfl Tryd.func50 (by kernel_rfl) rfl #[.slice (some ad184) l0.length c0, .int .i64 a1, .string (⟨#[45, 45, 62]⟩ : ByteArray)] rfl (by (try simp only [List.map_toArray, List.map_cons, List.map_nil]); first | done | rfl | (simp only [List.length_drop, List.length_take]; rfl)) ?_; (with_reducible refine (r13_follows.calls kj38 _ _ l0 a1 (⟨#[45, 45, 62]⟩ : ByteArray) true _ ?side1 ?side2 A53.out).mono ?_); (case side1 => repeat (first | exact (Kd.C_below HR0.out HB.out) | (with_reducible refine Kd.C_alloc ?_ _) | (with_reducible refine Kd.C_drewN ?_ _) | (with_reducible refine Kd.C_drew ?_))); (case side2 => exact HC0.out); rintro e w' ⟨rfl, ⟨nd, rfl⟩⟩; refine ⟨_, rfl, ?_⟩; (try (rw [drewN_self wc]; generalize hq_ : World.drewN wc _ = wc; have n0_ : Aside0 (wc.heap[gb183]? = some (.cells #[.int .i64 0, .string (⟨#[]⟩ : ByteArray), .string (⟨#[]⟩ : ByteArray), .bool false, .string (⟨#[]⟩ : ByteArray), .string (⟨#[]⟩ : ByteArray), .bool false, .bool false, .int .i64 0, .int .i64 0, .int .i64 0, .int .i64 0, .int .i64 0] 39 (0, 0))) := ⟨by rw [← hq_]; exact (by (with_reducible repeat (first | refine blk_drewN ?_ _ | refine blk_drew ?_ | refine blk_alloc ?_ _)); exact BK183.out)⟩; have n1_ : Aside0 (Below w.heap.size w wc) := ⟨by rw [← hq_]; exact (by repeat (first | (with_reducible first | exact HB.out | apply below_alloc | apply pw_below_drewN | apply below_drew1 | refine below_set ?_ GE183.out) | exact HB.out))⟩; clear BK183 HB hq_; have BK183 := n0_; have HB := n1_; clear n0_ n1_)); have hcz55_0 : wc.cell? ⟨gb183, 0, none⟩ = some (.int .i64 0) := (blk_cell BK183.out 0).trans rfl; have hcz55_1 : wc.cell? ⟨gb183, 1, none⟩ = some (.string (⟨#[]⟩ : ByteArray)) := (blk_cell BK183.out 1).trans rfl; have hcz55_2 : wc.cell? ⟨gb183, 2, none⟩ = some (.string (⟨#[]⟩ : ByteArray)) := (blk_cell BK183.out 2).trans rfl; have hcz55_3 : wc.cell? ⟨gb183, 3, none⟩ = some (.bool false) := (blk_cell BK183.out 3).trans rfl; have hcz55_4 : wc.cell? ⟨gb183, 4, none⟩ = some (.string (⟨#[]⟩ : ByteArray)) := (blk_cell BK183.out 4).trans rfl; have hcz55_5 : wc.cell? ⟨gb183, 5, none⟩ = some (.string (⟨#[]⟩ : ByteArray)) := (blk_cell BK183.out 5).trans rfl; have hcz55_6 : wc.cell? ⟨gb183, 6, none⟩ = some (.bool false) := (blk_cell BK183.out 6).trans rfl; have hcz55_7 : wc.cell? ⟨gb183, 7, none⟩ = some (.bool false) := (blk_cell BK183.out 7).trans rfl; have hcz55_8 : wc.cell? ⟨gb183, 8, none⟩ = some (.int .i64 0) := (blk_cell BK183.out 8).trans rfl; have hcz55_9 : wc.cell? ⟨gb183, 9, none⟩ = some (.int .i64 0) := (blk_cell BK183.out 9).trans rfl; have hcz55_10 : wc.cell? ⟨gb183, 10, none⟩ = some (.int .i64 0) := (blk_cell BK183.out 10).trans rfl; have hcz55_11 : wc.cell? ⟨gb183, 11, none⟩ = some (.int .i64 0) := (blk_cell BK183.out 11).trans rfl; have hcz55_12 : wc.cell? ⟨gb183, 12, none⟩ = some (.int .i64 0) := (blk_cell BK183.out 12).trans rfl; have hfz55_0 := blk_frozen BK183.out 0; have hfz55_1 := blk_frozen BK183.out 1; have hfz55_2 := blk_frozen BK183.out 2; have hfz55_3 := blk_frozen BK183.out 3; have hfz55_4 := blk_frozen BK183.out 4; have hfz55_5 := blk_frozen BK183.out 5; have hfz55_6 := blk_frozen BK183.out 6; have hfz55_7 := blk_frozen BK183.out 7; have hfz55_8 := blk_frozen BK183.out 8; have hfz55_9 := blk_frozen BK183.out 9; have hfz55_10 := blk_frozen BK183.out 10; have hfz55_11 := blk_frozen BK183.out 11; have hfz55_12 := blk_frozen BK183.out 12) | ((with_reducible refine gate_store (t := 39) (p := 4) rfl ?_); refine store_all13 (t := 39) (p := 4) (v := ?vo_w56) gb183 (.int .i64 15) (.string (⟨#[]⟩ : ByteArray)) (.string (⟨#[]⟩ : ByteArray)) (.bool false) (.string (⟨#[]⟩ : ByteArray)) (.string (⟨#[]⟩ : ByteArray)) (.bool false) (.bool false) (.int .i64 0) (.int .i64 0) (.int .i64 0) (.int .i64 0) (.int .i64 0) ?hg ?ho ?hn (by (with_reducible repeat (first | refine blk_drewN ?_ _ | refine blk_drew ?_ | refine blk_alloc ?_ _)); exact BK183.out) ?hx ?hy ?hi ?h1 ?_; (case ho => rfl); (case hg => rfl); (case hn => rfl); (case hx => first | rfl | (go_simp; done) | (go_simp; rfl)); (case hy => first | with_reducible rfl | (go_simp; done) | (go_simp; rfl)); (case hi => kernel_rfl); (case h1 => rfl); intro w56 hw; have n0_ : Aside0 (w56.heap[gb183]? = some (.cells #[.int .i64 15, .string (⟨#[]⟩ : ByteArray), .string (⟨#[]⟩ : ByteArray), .bool false, .string (⟨#[]⟩ : ByteArray), .string (⟨#[]⟩ : ByteArray), .bool false, .bool false, .int .i64 0, .int .i64 0, .int .i64 0, .int .i64 0, .int .i64 0] 39 (0, 0))) := ⟨(by rw [hw]; exact (putall13 (by (with_reducible repeat (first | refine blk_drewN ?_ _ | refine blk_drew ?_ | refine blk_alloc ?_ _)); exact BK183.out) (.int .i64 15) (.string (⟨#[]⟩ : ByteArray)) (.string (⟨#[]⟩ : ByteArray)) (.bool false) (.string (⟨#[]⟩ : ByteArray)) (.string (⟨#[]⟩ : ByteArray)) (.bool false) (.bool false) (.int .i64 0) (.int .i64 0) (.int .i64 0) (.int .i64 0) (.int .i64 0)))⟩; have n1_ : Aside0 (Below w.heap.size w w56) := ⟨(by rw [hw]; exact (belall13 (by repeat (first | (with_reducible first | exact HB.out | apply below_alloc | apply pw_below_drewN | apply below_drew1) | exact HB.out)) GE183.out (.int .i64 15) (.string (⟨#[]⟩ : ByteArray)) (.string (⟨#[]⟩ : ByteArray)) (.bool false) (.string (⟨#[]⟩ : ByteArray)) (.string (⟨#[]⟩ : ByteArray)) (.bool false) (.bool false) (.int .i64 0) (.int .i64 0) (.int .i64 0) (.int .i64 0) (.int .i64 0)))⟩; clear hw; clear BK183; clear HB; have BK183 := n0_; have HB := n1_; clear n0_ n1_))
              refine bodyPost_ret (results_ct rfl _ _ gb183 39 #[.int .i64 15, .string (⟨#[]⟩ : ByteArray), .string (⟨#[]⟩ : ByteArray), .bool false, .string (⟨#[]⟩ : ByteArray), .string (⟨#[]⟩ : ByteArray), .bool false, .bool false, .int .i64 0, .int .i64 0, .int .i64 0, .int .i64 0, .int .i64 0] (0, 0) _ rfl (by (with_reducible repeat (first | refine blk_drewN ?_ _ | refine blk_drew ?_ | refine blk_alloc ?_ _)); exact BK183.out) Tryd.underlying39 rfl (by kernel_rfl)) rfl ?_
              exact ⟨by first | rfl | (simp [errW_none, errW_some] <;> rfl) | (simp [*, errW_none, errW_some] <;> rfl), by repeat (first | (with_reducible first | exact HB.out | apply below_alloc | apply pw_below_drewN | apply below_drew1 | refine below_set ?_ GE183.out) | exact HB.out)⟩
             ·replace c54 := Bool.eq_false_iff.mpr c54
              subst c54
              have H1 : ((r13_follows.f kj38 l0 a1 (⟨#[60, 33, 45, 45]⟩ : ByteArray)).bind fun t199 => (if t199 = true then (some (14, (⟨#[]⟩ : ByteArray), (⟨#[]⟩ : ByteArray), false, (⟨#[]⟩ : ByteArray), (⟨#[]⟩ : ByteArray), false, false, 0, 0, 0, 0, 0, wrap64 (a1 + 4))) else ((r13_Begins.f kj38 l0 a1).bind fun t200 => (if t200 = true then ((r13_named.f kj38 l0 a1).bind fun bt201 => (some (bt201.1, bt201.2.1, bt201.2.2.1, bt201.2.2.2.1, bt201.2.2.2.2.1, bt201.2.2.2.2.2.1, bt201.2.2.2.2.2.2.1, bt201.2.2.2.2.2.2.2.1, bt201.2.2.2.2.2.2.2.2.1, bt201.2.2.2.2.2.2.2.2.2.1, bt201.2.2.2.2.2.2.2.2.2.2.1, bt201.2.2.2.2.2.2.2.2.2.2.2.1, bt201.2.2.2.2.2.2.2.2.2.2.2.2.1, bt201.2.2.2.2.2.2.2.2.2.2.2.2.2))) else (if ((rd_T55 l0 a1).f0) = 64 then ((r13_Begins.f kj38 l0 (wrap64 (a1 + 1))).bind fun t215 => (if t215 = true then ((r13_Take.f kj38 l0 (wrap64 (a1 + 1))).bind fun bt216 => (some (3, bt216.1, (⟨#[]⟩ : ByteArray), false, (⟨#[]⟩ : ByteArray), (⟨#[]⟩ : ByteArray), false, false, 0, 0, 0, 0, 0, bt216.2))) else (r13_one.j4 kj38 a1 ((rd_T55 l0 a1).f0) (⟨#[58, 59, 44, 123, 125, 40, 41, 91, 93]⟩ : ByteArray)))) else (r13_one.j4 kj38 a1 ((rd_T55 l0 a1).f0) (⟨#[58, 59, 44, 123, 125, 40, 41, 91, 93]⟩ : ByteArray))))))) = some (r1, r2, r3, r4, r5, r6, r7, r8, r9, r10, r11, r12, r13, r14) := by rw [if_neg (show ¬ (false = true) by decide)] at H; exact H
              clear H
              have H := H1
              clear H1
              replace H := Option.bind_eq_some_iff.mp H
              obtain ⟨t199, A570, H⟩ := H
              replace H : (if t199 = true then (some (14, (⟨#[]⟩ : ByteArray), (⟨#[]⟩ : ByteArray), false, (⟨#[]⟩ : ByteArray), (⟨#[]⟩ : ByteArray), false, false, 0, 0, 0, 0, 0, wrap64 (a1 + 4))) else ((r13_Begins.f kj38 l0 a1).bind fun t200 => (if t200 = true then ((r13_named.f kj38 l0 a1).bind fun bt201 => (some (bt201.1, bt201.2.1, bt201.2.2.1, bt201.2.2.2.1, bt201.2.2.2.2.1, bt201.2.2.2.2.2.1, bt201.2.2.2.2.2.2.1, bt201.2.2.2.2.2.2.2.1, bt201.2.2.2.2.2.2.2.2.1, bt201.2.2.2.2.2.2.2.2.2.1, bt201.2.2.2.2.2.2.2.2.2.2.1, bt201.2.2.2.2.2.2.2.2.2.2.2.1, bt201.2.2.2.2.2.2.2.2.2.2.2.2.1, bt201.2.2.2.2.2.2.2.2.2.2.2.2.2))) else (if ((rd_T55 l0 a1).f0) = 64 then ((r13_Begins.f kj38 l0 (wrap64 (a1 + 1))).bind fun t215 => (if t215 = true then ((r13_Take.f kj38 l0 (wrap64 (a1 + 1))).bind fun bt216 => (some (3, bt216.1, (⟨#[]⟩ : ByteArray), false, (⟨#[]⟩ : ByteArray), (⟨#[]⟩ : ByteArray), false, false, 0, 0, 0, 0, 0, bt216.2))) else (r13_one.j4 kj38 a1 ((rd_T55 l0 a1).f0) (⟨#[58, 59, 44, 123, 125, 40, 41, 91, 93]⟩ : ByteArray)))) else (r13_one.j4 kj38 a1 ((rd_T55 l0 a1).f0) (⟨#[58, 59, 44, 123, 125, 40, 41, 91, 93]⟩ : ByteArray)))))) = some (r1, r2, r3, r4, r5, r6, r7, r8, r9, r10, r11, r12, r13, r14) := H
              have A57 := Aside0.mk A570
              clear A570
              by_cases c58 : t199 = true
              ·subst c58
               have H1 : (some (14, (⟨#[]⟩ : ByteArray), (⟨#[]⟩ : ByteArray), false, (⟨#[]⟩ : ByteArray), (⟨#[]⟩ : ByteArray), false, false, 0, 0, 0, 0, 0, wrap64 (a1 + 4))) = some (r1, r2, r3, r4, r5, r6, r7, r8, r9, r10, r11, r12, r13, r14) := by rw [if_pos rfl] at H; exact H
               clear H
               have H := H1
               clear H1
               simp only [Option.some.injEq, Prod.mk.injEq] at H
               obtain ⟨rfl, rfl, rfl, rfl, rfl, rfl, rfl, rfl, rfl, rfl, rfl, rfl, rfl, rfl⟩ := H
               go_wp2_with (first | ((with_reducible refine gate_callee (f := 59) rfl ?_); refine goesL_ (some 117) rfl rfl Tryd.func59 (by kernel_rfl) rfl #[.slice (some ad184) l0.length c0, .int .i64 a1] rfl (by (try simp only [List.map_toArray, List.map_cons, List.map_nil]); first | done | rfl | (simp only [List.length_drop, List.length_take]; rfl)) ?_; (with_reducible refine (r13_numeral.calls kj38 _ _ l0 a1 false _ ?side1 ?side2 A51.out).mono ?_); (case side1 => repeat (first | exact (Kd.C_below HR0.out HB.out) | (with_reducible refine Kd.C_alloc ?_ _) | (with_reducible refine Kd.C_drewN ?_ _) | (with_reducible refine Kd.C_drew ?_))); (case side2 => exact HC0.out); rintro e w' ⟨rfl, ⟨nd, rfl⟩⟩; refine ⟨_, rfl, ?_⟩; (try (rw [drewN_self wc]; generalize hq_ : World.drewN wc _ = wc; have n0_ : Aside0 (wc.heap[gb183]? = some (.cells #[.int .i64 0, .string (⟨#[]⟩ : ByteArray), .string (⟨#[]⟩ : ByteArray), .bool false, .string (⟨#[]⟩ : ByteArray), .string (⟨#[]⟩ : ByteArray), .bool false, .bool false, .int .i64 0, .int .i64 0, .int .i64 0, .int .i64 0, .int .i64 0] 39 (0, 0))) := ⟨by rw [← hq_]; exact (by (with_reducible repeat (first | refine blk_drewN ?_ _ | refine blk_drew ?_ | refine blk_alloc ?_ _)); exact BK183.out)⟩; have n1_ : Aside0 (Below w.heap.size w wc) := ⟨by rw [← hq_]; exact (by repeat (first | (with_reducible first | exact HB.out | apply below_alloc | apply pw_below_drewN | apply below_drew1 | refine below_set ?_ GE183.out) | exact HB.out))⟩; clear BK183 HB hq_; have BK183 := n0_; have HB := n1_; clear n0_ n1_))) | ((with_reducible refine gate_callee (f := 50) rfl ?_); refine goesL_ (some 126) rfl rfl Tryd.func50 (by kernel_rfl) rfl #[.slice (some ad184) l0.length c0, .int .i64 a1, .string (⟨#[45, 45, 62]⟩ : ByteArray)] rfl (by (try simp only [List.map_toArray, List.map_cons, List.map_nil]); first | done | rfl | (simp only [List.length_drop, List.length_take]; rfl)) ?_; (with_reducible refine (r13_follows.calls kj38 _ _ l0 a1 (⟨#[45, 45, 62]⟩ : ByteArray) false _ ?side1 ?side2 A53.out).mono ?_); (case side1 => repeat (first | exact (Kd.C_below HR0.out HB.out) | (with_reducible refine Kd.C_alloc ?_ _) | (with_reducible refine Kd.C_drewN ?_ _) | (with_reducible refine Kd.C_drew ?_))); (case side2 => exact HC0.out); rintro e w' ⟨rfl, ⟨nd, rfl⟩⟩; refine ⟨_, rfl, ?_⟩; (try (rw [drewN_self wc]; generalize hq_ : World.drewN wc _ = wc; have n0_ : Aside0 (wc.heap[gb183]? = some (.cells #[.int .i64 0, .string (⟨#[]⟩ : ByteArray), .string (⟨#[]⟩ : ByteArray), .bool false, .string (⟨#[]⟩ : ByteArray), .string (⟨#[]⟩ : ByteArray), .bool false, .bool false, .int .i64 0, .int .i64 0, .int .i64 0, .int .i64 0, .int .i64 0] 39 (0, 0))) := ⟨by rw [← hq_]; exact (by (with_reducible repeat (first | refine blk_drewN ?_ _ | refine blk_drew ?_ | refine blk_alloc ?_ _)); exact BK183.out)⟩; have n1_ : Aside0 (Below w.heap.size w wc) := ⟨by rw [← hq_]; exact (by repeat (first | (with_reducible first | exact HB.out | apply below_alloc | apply pw_below_drewN | apply below_drew1 | refine below_set ?_ GE183.out) | exact HB.out))⟩; clear BK183 HB hq_; have BK183 := n0_; have HB := n1_; clear n0_ n1_))) | ((with_reducible refine gate_callee (f := 50) rfl ?_); refine goesL_ (some 133) rfl rfl Tryd.func50 (by kernel_rfl) rfl #[.slice (some ad184) l0.length c0, .int .i64 a1, .string (⟨#[60, 33, 45, 45]⟩ : ByteArray)] rfl (by (try simp only [List.map_toArray, List.map_cons, List.map_nil]); first | done | rfl | (simp only [List.length_drop, List.length_take]; rfl)) ?_; (with_reducible refine (r13_follows.calls kj38 _ _ l0 a1 (⟨#[60, 33, 45, 45]⟩ : ByteArray) true _ ?side1 ?side2 A57.out).mono ?_); (case side1 => repeat (first | exact (Kd.C_below HR0.out HB.out) | (with_reducible refine Kd.C_alloc ?_ _) | (with_reducible refine Kd.C_drewN ?_ _) | (with_reducible refine Kd.C_drew ?_))); (case side2 => exact HC0.out); rintro e w' ⟨rfl, ⟨nd, rfl⟩⟩; refine ⟨_, rfl, ?_⟩; (try (rw [drewN_self wc]; generalize hq_ : World.drewN wc _ = wc; have n0_ : Aside0 (wc.heap[gb183]? = some (.cells #[.int .i64 0, .string (⟨#[]⟩ : ByteArray), .string (⟨#[]⟩ : ByteArray), .bool false, .string (⟨#[]⟩ : ByteArray), .string (⟨#[]⟩ : ByteArray), .bool false, .bool false, .int .i64 0, .int .i64 0, .int .i64 0, .int .i64 0, .int .i64 0] 39 (0, 0))) := ⟨by rw [← hq_]; exact (by (with_reducible repeat (first | refine blk_drewN ?_ _ | refine blk_drew ?_ | refine blk_alloc ?_ _)); exact BK183.out)⟩; have n1_ : Aside0 (Below w.heap.size w wc) := ⟨by rw [← hq_]; exact (by repeat (first | (with_reducible first | exact HB.out | apply below_alloc | apply pw_below_drewN | apply below_drew1 | refine below_set ?_ GE183.out) | exact HB.out))⟩; clear BK183 HB hq_; have BK183 := n0_; have HB := n1_; clear n0_ n1_)); have hcz59_0 : wc.cell? ⟨gb183, 0, none⟩ = some (.int .i64 0) := (blk_cell BK183.out 0).trans rfl; have hcz59_1 : wc.cell? ⟨gb183, 1, none⟩ = some (.string (⟨#[]⟩ : ByteArray)) := (blk_cell BK183.out 1).trans rfl; have hcz59_2 : wc.cell? ⟨gb183, 2, none⟩ = some (.string (⟨#[]⟩ : ByteArray)) := (blk_cell BK183.out 2).trans rfl; have hcz59_3 : wc.cell? ⟨gb183, 3, none⟩ = some (.bool false) := (blk_cell BK183.out 3).trans rfl; have hcz59_4 : wc.cell? ⟨gb183, 4, none⟩ = some (.string (⟨#[]⟩ : ByteArray)) := (blk_cell BK183.out 4).trans rfl; have hcz59_5 : wc.cell? ⟨gb183, 5, none⟩ = some (.string (⟨#[]⟩ : ByteArray)) := (blk_cell BK183.out 5).trans rfl; have hcz59_6 : wc.cell? ⟨gb183, 6, none⟩ = some (.bool false) := (blk_cell BK183.out 6).trans rfl; have hcz59_7 : wc.cell? ⟨gb183, 7, none⟩ = some (.bool false) := (blk_cell BK183.out 7).trans rfl; have hcz59_8 : wc.cell? ⟨gb183, 8, none⟩ = some (.int .i64 0) := (blk_cell BK183.out 8).trans rfl; have hcz59_9 : wc.cell? ⟨gb183, 9, none⟩ = some (.int .i64 0) := (blk_cell BK183.out 9).trans rfl; have hcz59_10 : wc.cell? ⟨gb183, 10, none⟩ = some (.int .i64 0) := (blk_cell BK183.out 10).trans rfl; have hcz59_11 : wc.cell? ⟨gb183, 11, none⟩ = some (.int .i64 0) := (blk_cell BK183.out 11).trans rfl; have hcz59_12 : wc.cell? ⟨gb183, 12, none⟩ = some (.int .i64 0) := (blk_cell BK183.out 12).trans rfl; have hfz59_0 := blk_frozen BK183.out 0; have hfz59_1 := blk_frozen BK183.out 1; have hfz59_2 := blk_frozen BK183.out 2; have hfz59_3 := blk_frozen BK183.out 3; have hfz59_4 := blk_frozen BK183.out 4; have hfz59_5 := blk_frozen BK183.out 5; have hfz59_6 := blk_frozen BK183.out 6; have hfz59_7 := blk_frozen BK183.out 7; have hfz59_8 := blk_frozen BK183.out 8; have hfz59_9 := blk_frozen BK183.out 9; have hfz59_10 := blk_frozen BK183.out 10; have hfz59_11 := blk_frozen BK183.out 11; have hfz59_12 := blk_frozen BK183.out 12) | ((with_reducible refine gate_store (t := 39) (p := 4) rfl ?_); refine store_all13 (t := 39) (p := 4) (v := ?vo_w60) gb183 (.int .i64 14) (.string (⟨#[]⟩ : ByteArray)) (.string (⟨#[]⟩ : ByteArray)) (.bool false) (.string (⟨#[]⟩ : ByteArray)) (.string (⟨#[]⟩ : ByteArray)) (.bool false) (.bool false) (.int .i64 0) (.int .i64 0) (.int .i64 0) (.int .i64 0) (.int .i64 0) ?hg ?ho ?hn (by (with_reducible repeat (first | refine blk_drewN ?_ _ | refine blk_drew ?_ | refine blk_alloc ?_ _)); exact BK183.out) ?hx ?hy ?hi ?h1 ?_; (case ho => rfl); (case hg => rfl); (case hn => rfl); (case hx => first | rfl | (go_simp; done) | (go_simp; rfl)); (case hy => first | with_reducible rfl | (go_simp; done) | (go_simp; rfl)); (case hi => kernel_rfl); (case h1 => rfl); intro w60 hw; have n0_ : Aside0 (w60.heap[gb183]? = some (.cells #[.int .i64 14, .string (⟨#[]⟩ : ByteArray), .string (⟨#[]⟩ : ByteArray), .bool false, .string (⟨#[]⟩ : ByteArray), .string (⟨#[]⟩ : ByteArray), .bool false, .bool false, .int .i64 0, .int .i64 0, .int .i64 0, .int .i64 0, .int .i64 0] 39 (0, 0))) := ⟨(by rw [hw]; exact (putall13 (by (with_reducible repeat (first | refine blk_drewN ?_ _ | refine blk_drew ?_ | refine blk_alloc ?_ _)); exact BK183.out) (.int .i64 14) (.string (⟨#[]⟩ : ByteArray)) (.string (⟨#[]⟩ : ByteArray)) (.bool false) (.string (⟨#[]⟩ : ByteArray)) (.string (⟨#[]⟩ : ByteArray)) (.bool false) (.bool false) (.int .i64 0) (.int .i64 0) (.int .i64 0) (.int .i64 0) (.int .i64 0)))⟩; have n1_ : Aside0 (Below w.heap.size w w60) := ⟨(by rw [hw]; exact (belall13 (by repeat (first | (with_reducible first | exact HB.out | apply below_alloc | apply pw_below_drewN | apply below_drew1) | exact HB.out)) GE183.out (.int .i64 14) (.string (⟨#[]⟩ : ByteArray)) (.string (⟨#[]⟩ : ByteArray)) (.bool false) (.string (⟨#[]⟩ : ByteArray)) (.string (⟨#[]⟩ : ByteArray)) (.bool false) (.bool false) (.int .i64 0) (.int .i64 0) (.int .i64 0) (.int .i64 0) (.int .i64 0)))⟩; clear hw; clear BK183; clear HB; have BK183 := n0_; have HB := n1_; clear n0_ n1_))
               refine bodyPost_ret (results_ct rfl _ _ gb183 39 #[.int .i64 14, .string (⟨#[]⟩ : ByteArray), .string (⟨#[]⟩ : ByteArray), .bool false, .string (⟨#[]⟩ : ByteArray), .string (⟨#[]⟩ : ByteArray), .bool false, .bool false, .int .i64 0, .int .i64 0, .int .i64 0, .int .i64 0, .int .i64 0] (0, 0) _ rfl (by (with_reducible repeat (first | refine blk_drewN ?_ _ | refine blk_drew ?_ | refine blk_alloc ?_ _)); exact BK183.out) Tryd.underlying39 rfl (by kernel_rfl)) rfl ?_
               exact ⟨by first | rfl | (simp [errW_none, errW_some] <;> rfl) | (simp [*, errW_none, errW_some] <;> rfl), by repeat (first | (with_reducible first | exact HB.out | apply below_alloc | apply pw_below_drewN | apply below_drew1 | refine below_set ?_ GE183.out) | exact HB.out)⟩
              ·replace c58 := Bool.eq_false_iff.mpr c58
               subst c58
               have H1 : ((r13_Begins.f kj38 l0 a1).bind fun t200 => (if t200 = true then ((r13_named.f kj38 l0 a1).bind fun bt201 => (some (bt201.1, bt201.2.1, bt201.2.2.1, bt201.2.2.2.1, bt201.2.2.2.2.1, bt201.2.2.2.2.2.1, bt201.2.2.2.2.2.2.1, bt201.2.2.2.2.2.2.2.1, bt201.2.2.2.2.2.2.2.2.1, bt201.2.2.2.2.2.2.2.2.2.1, bt201.2.2.2.2.2.2.2.2.2.2.1, bt201.2.2.2.2.2.2.2.2.2.2.2.1, bt201.2.2.2.2.2.2.2.2.2.2.2.2.1, bt201.2.2.2.2.2.2.2.2.2.2.2.2.2))) else (if ((rd_T55 l0 a1).f0) = 64 then ((r13_Begins.f kj38 l0 (wrap64 (a1 + 1))).bind fun t215 => (if t215 = true then ((r13_Take.f kj38 l0 (wrap64 (a1 + 1))).bind fun bt216 => (some (3, bt216.1, (⟨#[]⟩ : ByteArray), false, (⟨#[]⟩ : ByteArray), (⟨#[]⟩ : ByteArray), false, false, 0, 0, 0, 0, 0, bt216.2))) else (r13_one.j4 kj38 a1 ((rd_T55 l0 a1).f0) (⟨#[58, 59, 44, 123, 125, 40, 41, 91, 93]⟩ : ByteArray)))) else (r13_one.j4 kj38 a1 ((rd_T55 l0 a1).f0) (⟨#[58, 59, 44, 123, 125, 40, 41, 91, 93]⟩ : ByteArray))))) = some (r1, r2, r3, r4, r5, r6, r7, r8, r9, r10, r11, r12, r13, r14) := by rw [if_neg (show ¬ (false = true) by decide)] at H; exact H
               clear H
               have H := H1
               clear H1
               replace H := Option.bind_eq_some_iff.mp H
               obtain ⟨t200, A610, H⟩ := H
               replace H : (if t200 = true then ((r13_named.f kj38 l0 a1).bind fun bt201 => (some (bt201.1, bt201.2.1, bt201.2.2.1, bt201.2.2.2.1, bt201.2.2.2.2.1, bt201.2.2.2.2.2.1, bt201.2.2.2.2.2.2.1, bt201.2.2.2.2.2.2.2.1, bt201.2.2.2.2.2.2.2.2.1, bt201.2.2.2.2.2.2.2.2.2.1, bt201.2.2.2.2.2.2.2.2.2.2.1, bt201.2.2.2.2.2.2.2.2.2.2.2.1, bt201.2.2.2.2.2.2.2.2.2.2.2.2.1, bt201.2.2.2.2.2.2.2.2.2.2.2.2.2))) else (if ((rd_T55 l0 a1).f0) = 64 then ((r13_Begins.f kj38 l0 (wrap64 (a1 + 1))).bind fun t215 => (if t215 = true then ((r13_Take.f kj38 l0 (wrap64 (a1 + 1))).bind fun bt216 => (some (3, bt216.1, (⟨#[]⟩ : ByteArray), false, (⟨#[]⟩ : ByteArray), (⟨#[]⟩ : ByteArray), false, false, 0, 0, 0, 0, 0, bt216.2))) else (r13_one.j4 kj38 a1 ((rd_T55 l0 a1).f0) (⟨#[58, 59, 44, 123, 125, 40, 41, 91, 93]⟩ : ByteArray)))) else (r13_one.j4 kj38 a1 ((rd_T55 l0 a1).f0) (⟨#[58, 59, 44, 123, 125, 40, 41, 91, 93]⟩ : ByteArray)))) = some (r1, r2, r3, r4, r5, r6, r7, r8, r9, r10, r11, r12, r13, r14) := H
               have A61 := Aside0.mk A610
               clear A610
               by_cases c62 : t200 = true
               ·subst c62
                have H1 : ((r13_named.f kj38 l0 a1).bind fun bt201 => (some (bt201.1, bt201.2.1, bt201.2.2.1, bt201.2.2.2.1, bt201.2.2.2.2.1, bt201.2.2.2.2.2.1, bt201.2.2.2.2.2.2.1, bt201.2.2.2.2.2.2.2.1, bt201.2.2.2.2.2.2.2.2.1, bt201.2.2.2.2.2.2.2.2.2.1, bt201.2.2.2.2.2.2.2.2.2.2.1, bt201.2.2.2.2.2.2.2.2.2.2.2.1, bt201.2.2.2.2.2.2.2.2.2.2.2.2.1, bt201.2.2.2.2.2.2.2.2.2.2.2.2.2))) = some (r1, r2, r3, r4, r5, r6, r7, r8, r9, r10, r11, r12, r13, r14) := by rw [if_pos rfl] at H; exact H
                clear H
                have H := H1
                clear H1
                replace H := Option.bind_eq_some_iff.mp H
                obtain ⟨⟨t201, t202, t203, t204, t205, t206, t207, t208, t209, t210, t211, t212, t213, t214⟩, A630, H⟩ := H
                replace H : (some (t201, t202, t203, t204, t205, t206, t207, t208, t209, t210, t211, t212, t213, t214)) = some (r1, r2, r3, r4, r5, r6, r7, r8, r9, r10, r11, r12, r13, r14) := H
                have A63 := Aside0.mk A630
                clear A630
                simp only [Option.some.injEq, Prod.mk.injEq] at H
                obtain ⟨rfl, rfl, rfl, rfl, rfl, rfl, rfl, rfl, rfl, rfl, rfl, rfl, rfl, rfl⟩ := H
                go_wp2_with (first | ((with_reducible refine gate_callee (f := 59) rfl ?_); refine goesL_ (some 117) rfl rfl Tryd.func59 (by kernel_rfl) rfl #[.slice (some ad184) l0.length c0, .int .i64 a1] rfl (by (try simp only [List.map_toArray, List.map_cons, List.map_nil]); first | done | rfl | (simp only [List.length_drop, List.length_take]; rfl)) ?_; (with_reducible refine (r13_numeral.calls kj38 _ _ l0 a1 false _ ?side1 ?side2 A51.out).mono ?_); (case side1 => repeat (first | exact (Kd.C_below HR0.out HB.out) | (with_reducible refine Kd.C_alloc ?_ _) | (with_reducible refine Kd.C_drewN ?_ _) | (with_reducible refine Kd.C_drew ?_))); (case side2 => exact HC0.out); rintro e w' ⟨rfl, ⟨nd, rfl⟩⟩; refine ⟨_, rfl, ?_⟩; (try (rw [drewN_self wc]; generalize hq_ : World.drewN wc _ = wc; have n0_ : Aside0 (wc.heap[gb183]? = some (.cells #[.int .i64 0, .string (⟨#[]⟩ : ByteArray), .string (⟨#[]⟩ : ByteArray), .bool false, .string (⟨#[]⟩ : ByteArray), .string (⟨#[]⟩ : ByteArray), .bool false, .bool false, .int .i64 0, .int .i64 0, .int .i64 0, .int .i64 0, .int .i64 0] 39 (0, 0))) := ⟨by rw [← hq_]; exact (by (with_reducible repeat (first | refine blk_drewN ?_ _ | refine blk_drew ?_ | refine blk_alloc ?_ _)); exact BK183.out)⟩; have n1_ : Aside0 (Below w.heap.size w wc) := ⟨by rw [← hq_]; exact (by repeat (first | (with_reducible first | exact HB.out | apply below_alloc | apply pw_below_drewN | apply below_drew1 | refine below_set ?_ GE183.out) | exact HB.out))⟩; clear BK183 HB hq_; have BK183 := n0_; have HB := n1_; clear n0_ n1_))) | ((with_reducible refine gate_callee (f := 50) rfl ?_); refine goesL_ (some 126) rfl rfl Tryd.func50 (by kernel_rfl) rfl #[.slice (some ad184) l0.length c0, .int .i64 a1, .string (⟨#[45, 45, 62]⟩ : ByteArray)] rfl (by (try simp only [List.map_toArray, List.map_cons, List.map_nil]); first | done | rfl | (simp only [List.length_drop, List.length_take]; rfl)) ?_; (with_reducible refine (r13_follows.calls kj38 _ _ l0 a1 (⟨#[45, 45, 62]⟩ : ByteArray) false _ ?side1 ?side2 A53.out).mono ?_); (case side1 => repeat (first | exact (Kd.C_below HR0.out HB.out) | (with_reducible refine Kd.C_alloc ?_ _) | (with_reducible refine Kd.C_drewN ?_ _) | (with_reducible refine Kd.C_drew ?_))); (case side2 => exact HC0.out); rintro e w' ⟨rfl, ⟨nd, rfl⟩⟩; refine ⟨_, rfl, ?_⟩; (try (rw [drewN_self wc]; generalize hq_ : World.drewN wc _ = wc; have n0_ : Aside0 (wc.heap[gb183]? = some (.cells #[.int .i64 0, .string (⟨#[]⟩ : ByteArray), .string (⟨#[]⟩ : ByteArray), .bool false, .string (⟨#[]⟩ : ByteArray), .string (⟨#[]⟩ : ByteArray), .bool false, .bool false, .int .i64 0, .int .i64 0, .int .i64 0, .int .i64 0, .int .i64 0] 39 (0, 0))) := ⟨by rw [← hq_]; exact (by (with_reducible repeat (first | refine blk_drewN ?_ _ | refine blk_drew ?_ | refine blk_alloc ?_ _)); exact BK183.out)⟩; have n1_ : Aside0 (Below w.heap.size w wc) := ⟨by rw [← hq_]; exact (by repeat (first | (with_reducible first | exact HB.out | apply below_alloc | apply pw_below_drewN | apply below_drew1 | refine below_set ?_ GE183.out) | exact HB.out))⟩; clear BK183 HB hq_; have BK183 := n0_; have HB := n1_; clear n0_ n1_))) | ((with_reducible refine gate_callee (f := 50) rfl ?_); refine goesL_ (some 133) rfl rfl Tryd.func50 (by kernel_rfl) rfl #[.slice (some ad184) l0.length c0, .int .i64 a1, .string (⟨#[60, 33, 45, 45]⟩ : ByteArray)] rfl (by (try simp only [List.map_toArray, List.map_cons, List.map_nil]); first | done | rfl | (simp only [List.length_drop, List.length_take]; rfl)) ?_; (with_reducible refine (r13_follows.calls kj38 _ _ l0 a1 (⟨#[60, 33, 45, 45]⟩ : ByteArray) false _ ?side1 ?side2 A57.out).mono ?_); (case side1 => repeat (first | exact (Kd.C_below HR0.out HB.out) | (with_reducible refine Kd.C_alloc ?_ _) | (with_reducible refine Kd.C_drewN ?_ _) | (with_reducible refine Kd.C_drew ?_))); (case side2 => exact HC0.out); rintro e w' ⟨rfl, ⟨nd, rfl⟩⟩; refine ⟨_, rfl, ?_⟩; (try (rw [drewN_self wc]; generalize hq_ : World.drewN wc _ = wc; have n0_ : Aside0 (wc.heap[gb183]? = some (.cells #[.int .i64 0, .string (⟨#[]⟩ : ByteArray), .string (⟨#[]⟩ : ByteArray), .bool false, .string (⟨#[]⟩ : ByteArray), .string (⟨#[]⟩ : ByteArray), .bool false, .bool false, .int .i64 0, .int .i64 0, .int .i64 0, .int .i64 0, .int .i64 0] 39 (0, 0))) := ⟨by rw [← hq_]; exact (by (with_reducible repeat (first | refine blk_drewN ?_ _ | refine blk_drew ?_ | refine blk_alloc ?_ _)); exact BK183.out)⟩; have n1_ : Aside0 (Below w.heap.size w wc) := ⟨by rw [← hq_]; exact (by repeat (first | (with_reducible first | exact HB.out | apply below_alloc | apply pw_below_drewN | apply below_drew1 | refine below_set ?_ GE183.out) | exact HB.out))⟩; clear BK183 HB hq_; have BK183 := n0_; have HB := n1_; clear n0_ n1_))) | ((with_reducible refine gate_callee (f := 58) rfl ?_); refine goesL_ (some 140) rfl rfl Tryd.func58 (by kernel_rfl) rfl #[.slice (some ad184) l0.length c0, .int .i64 a1] rfl (by (try simp only [List.map_toArray, List.map_cons, List.map_nil]); first | done | rfl | (simp only [List.length_drop, List.length_take]; rfl)) ?_; (with_reducible refine (r13_Begins.calls kj38 _ _ l0 a1 true _ ?side1 ?side2 A61.out).mono ?_); (case side1 => repeat (first | exact (Kd.C_below HR0.out HB.out) | (with_reducible refine Kd.C_alloc ?_ _) | (with_reducible refine Kd.C_drewN ?_ _) | (with_reducible refine Kd.C_drew ?_))); (case side2 => exact HC0.out); rintro e w' ⟨rfl, ⟨nd, rfl⟩⟩; refine ⟨_, rfl, ?_⟩; (try (rw [drewN_self wc]; generalize hq_ : World.drewN wc _ = wc; have n0_ : Aside0 (wc.heap[gb183]? = some (.cells #[.int .i64 0, .string (⟨#[]⟩ : ByteArray), .string (⟨#[]⟩ : ByteArray), .bool false, .string (⟨#[]⟩ : ByteArray), .string (⟨#[]⟩ : ByteArray), .bool false, .bool false, .int .i64 0, .int .i64 0, .int .i64 0, .int .i64 0, .int .i64 0] 39 (0, 0))) := ⟨by rw [← hq_]; exact (by (with_reducible repeat (first | refine blk_drewN ?_ _ | refine blk_drew ?_ | refine blk_alloc ?_ _)); exact BK183.out)⟩; have n1_ : Aside0 (Below w.heap.size w wc) := ⟨by rw [← hq_]; exact (by repeat (first | (with_reducible first | exact HB.out | apply below_alloc | apply pw_below_drewN | apply below_drew1 | refine below_set ?_ GE183.out) | exact HB.out))⟩; clear BK183 HB hq_; have BK183 := n0_; have HB := n1_; clear n0_ n1_))) | ((with_reducible refine gate_callee (f := 61) rfl ?_); refine goesL_ (some 143) rfl rfl Tryd.func61 (by kernel_rfl) rfl #[.slice (some ad184) l0.length c0, .int .i64 a1] rfl (by (try simp only [List.map_toArray, List.map_cons, List.map_nil]); first | done | rfl | (simp only [List.length_drop, List.length_take]; rfl)) ?_; (with_reducible refine (r13_named.calls kj38 _ _ l0 a1 t201 t202 t203 t204 t205 t206 t207 t208 t209 t210 t211 t212 t213 t214 _ ?side1 ?side2 A63.out).mono ?_); (case side1 => repeat (first | exact (Kd.C_below HR0.out HB.out) | (with_reducible refine Kd.C_alloc ?_ _) | (with_reducible refine Kd.C_drewN ?_ _) | (with_reducible refine Kd.C_drew ?_))); (case side2 => exact HC0.out); rintro e w64 ⟨rfl, hb⟩; refine ⟨_, rfl, ?_⟩; have n0_ := Aside0.mk (blk_below (g := gb183) (o := .cells #[.int .i64 0, .string (⟨#[]⟩ : ByteArray), .string (⟨#[]⟩ : ByteArray), .bool false, .string (⟨#[]⟩ : ByteArray), .string (⟨#[]⟩ : ByteArray), .bool false, .bool false, .int .i64 0, .int .i64 0, .int .i64 0, .int .i64 0, .int .i64 0] 39 (0, 0)) (by (with_reducible repeat (first | refine blk_drewN ?_ _ | refine blk_drew ?_ | refine blk_alloc ?_ _)); exact BK183.out) hb); have n1_ := Aside0.mk (below_step (by repeat (first | (with_reducible first | exact HB.out | apply below_alloc | apply pw_below_drewN | apply below_drew1 | refine below_set ?_ GE183.out) | exact HB.out)) hb); clear BK183; clear HB; have BK183 := n0_; have HB := n1_; clear n0_ n1_; (try clear hb); (try clear hb2); (try clear hk); (try clear hi); have hcz65_0 : w64.cell? ⟨gb183, 0, none⟩ = some (.int .i64 0) := (blk_cell BK183.out 0).trans rfl; have hcz65_1 : w64.cell? ⟨gb183, 1, none⟩ = some (.string (⟨#[]⟩ : ByteArray)) := (blk_cell BK183.out 1).trans rfl; have hcz65_2 : w64.cell? ⟨gb183, 2, none⟩ = some (.string (⟨#[]⟩ : ByteArray)) := (blk_cell BK183.out 2).trans rfl; have hcz65_3 : w64.cell? ⟨gb183, 3, none⟩ = some (.bool false) := (blk_cell BK183.out 3).trans rfl; have hcz65_4 : w64.cell? ⟨gb183, 4, none⟩ = some (.string (⟨#[]⟩ : ByteArray)) := (blk_cell BK183.out 4).trans rfl; have hcz65_5 : w64.cell? ⟨gb183, 5, none⟩ = some (.string (⟨#[]⟩ : ByteArray)) := (blk_cell BK183.out 5).trans rfl; have hcz65_6 : w64.cell? ⟨gb183, 6, none⟩ = some (.bool false) := (blk_cell BK183.out 6).trans rfl; have hcz65_7 : w64.cell? ⟨gb183, 7, none⟩ = some (.bool false) := (blk_cell BK183.out 7).trans rfl; have hcz65_8 : w64.cell? ⟨gb183, 8, none⟩ = some (.int .i64 0) := (blk_cell BK183.out 8).trans rfl; have hcz65_9 : w64.cell? ⟨gb183, 9, none⟩ = some (.int .i64 0) := (blk_cell BK183.out 9).trans rfl; have hcz65_10 : w64.cell? ⟨gb183, 10, none⟩ = some (.int .i64 0) := (blk_cell BK183.out 10).trans rfl; have hcz65_11 : w64.cell? ⟨gb183, 11, none⟩ = some (.int .i64 0) := (blk_cell BK183.out 11).trans rfl; have hcz65_12 : w64.cell? ⟨gb183, 12, none⟩ = some (.int .i64 0) := (blk_cell BK183.out 12).trans rfl; have hfz65_0 := blk_frozen BK183.out 0; have hfz65_1 := blk_frozen BK183.out 1; have hfz65_2 := blk_frozen BK183.out 2; have hfz65_3 := blk_frozen BK183.out 3; have hfz65_4 := blk_frozen BK183.out 4; have hfz65_5 := blk_frozen BK183.out 5; have hfz65_6 := blk_frozen BK183.out 6; have hfz65_7 := blk_frozen BK183.out 7; have hfz65_8 := blk_frozen BK183.out 8; have hfz65_9 := blk_frozen BK183.out 9; have hfz65_10 := blk_frozen BK183.out 10; have hfz65_11 := blk_frozen BK183.out 11; have hfz65_12 := blk_frozen BK183.out 12) | ((with_reducible refine gate_store (t := 39) (p := 4) rfl ?_); refine store_all13 (t := 39) (p := 4) (v := ?vo_w66) gb183 (.int .i64 t201) (.string t202) (.string t203) (.bool t204) (.string t205) (.string t206) (.bool t207) (.bool t208) (.int .i64 t209) (.int .i64 t210) (.int .i64 t211) (.int .i64 t212) (.int .i64 t213) ?hg ?ho ?hn (by (with_reducible repeat (first | refine blk_drewN ?_ _ | refine blk_drew ?_ | refine blk_alloc ?_ _)); exact BK183.out) ?hx ?hy ?hi ?h1 ?_; (case ho => rfl); (case hg => rfl); (case hn => rfl); (case hx => first | rfl | (go_simp; done) | (go_simp; rfl)); (case hy => first | with_reducible rfl | (go_simp; done) | (go_simp; rfl)); (case hi => kernel_rfl); (case h1 => rfl); intro w66 hw; have n0_ : Aside0 (w66.heap[gb183]? = some (.cells #[.int .i64 t201, .string t202, .string t203, .bool t204, .string t205, .string t206, .bool t207, .bool t208, .int .i64 t209, .int .i64 t210, .int .i64 t211, .int .i64 t212, .int .i64 t213] 39 (0, 0))) := ⟨(by rw [hw]; exact (putall13 (by (with_reducible repeat (first | refine blk_drewN ?_ _ | refine blk_drew ?_ | refine blk_alloc ?_ _)); exact BK183.out) (.int .i64 t201) (.string t202) (.string t203) (.bool t204) (.string t205) (.string t206) (.bool t207) (.bool t208) (.int .i64 t209) (.int .i64 t210) (.int .i64 t211) (.int .i64 t212) (.int .i64 t213)))⟩; have n1_ : Aside0 (Below w.heap.size w w66) := ⟨(by rw [hw]; exact (belall13 (by repeat (first | (with_reducible first | exact HB.out | apply below_alloc | apply pw_below_drewN | apply below_drew1) | exact HB.out)) GE183.out (.int .i64 t201) (.string t202) (.string t203) (.bool t204) (.string t205) (.string t206) (.bool t207) (.bool t208) (.int .i64 t209) (.int .i64 t210) (.int .i64 t211) (.int .i64 t212) (.int .i64 t213)))⟩; clear hw; clear BK183; clear HB; have BK183 := n0_; have HB := n1_; clear n0_ n1_))
                refine bodyPost_ret (results_ct rfl _ _ gb183 39 #[.int .i64 t201, .string t202, .string t203, .bool t204, .string t205, .string t206, .bool t207, .bool t208, .int .i64 t209, .int .i64 t210, .int .i64 t211, .int .i64 t212, .int .i64 t213] (0, 0) _ rfl (by (with_reducible repeat (first | refine blk_drewN ?_ _ | refine blk_drew ?_ | refine blk_alloc ?_ _)); exact BK183.out) Tryd.underlying39 rfl (by kernel_rfl)) rfl ?_
                exact ⟨by first | rfl | (simp [errW_none, errW_some] <;> rfl) | (simp [*, errW_none, errW_some] <;> rfl), by repeat (first | (with_reducible first | exact HB.out | apply below_alloc | apply pw_below_drewN | apply below_drew1 | refine below_set ?_ GE183.out) | exact HB.out)⟩
               ·replace c62 := Bool.eq_false_iff.mpr c62
                subst c62
                have H1 : (if ((rd_T55 l0 a1).f0) = 64 then ((r13_Begins.f kj38 l0 (wrap64 (a1 + 1))).bind fun t215 => (if t215 = true then ((r13_Take.f kj38 l0 (wrap64 (a1 + 1))).bind fun bt216 => (some (3, bt216.1, (⟨#[]⟩ : ByteArray), false, (⟨#[]⟩ : ByteArray), (⟨#[]⟩ : ByteArray), false, false, 0, 0, 0, 0, 0, bt216.2))) else (r13_one.j4 kj38 a1 ((rd_T55 l0 a1).f0) (⟨#[58, 59, 44, 123, 125, 40, 41, 91, 93]⟩ : ByteArray)))) else (r13_one.j4 kj38 a1 ((rd_T55 l0 a1).f0) (⟨#[58, 59, 44, 123, 125, 40, 41, 91, 93]⟩ : ByteArray))) = some (r1, r2, r3, r4, r5, r6, r7, r8, r9, r10, r11, r12, r13, r14) := by rw [if_neg (show ¬ (false = true) by decide)] at H; exact H
                clear H
                have H := H1
                clear H1
                by_cases c67 : ((rd_T55 l0 a1).f0) = 64
                ·rw [if_pos c67] at H
                 have c67b0 : (((rd_T55 l0 a1).f0) == 64) = true := beq_iff_eq.mpr c67
                 have c67b1 : (((rd_T55 l0 a1).f0) != 64) = false := bne_eq_false_iff_eq.mpr c67
                 clear c67
                 replace H := Option.bind_eq_some_iff.mp H
                 obtain ⟨t215, A680, H⟩ := H
                 replace H : (if t215 = true then ((r13_Take.f kj38 l0 (wrap64 (a1 + 1))).bind fun bt216 => (some (3, bt216.1, (⟨#[]⟩ : ByteArray), false, (⟨#[]⟩ : ByteArray), (⟨#[]⟩ : ByteArray), false, false, 0, 0, 0, 0, 0, bt216.2))) else (r13_one.j4 kj38 a1 ((rd_T55 l0 a1).f0) (⟨#[58, 59, 44, 123, 125, 40, 41, 91, 93]⟩ : ByteArray))) = some (r1, r2, r3, r4, r5, r6, r7, r8, r9, r10, r11, r12, r13, r14) := H
                 have A68 := Aside0.mk A680
                 clear A680
                 by_cases c69 : t215 = true
                 ·subst c69
                  have H1 : ((r13_Take.f kj38 l0 (wrap64 (a1 + 1))).bind fun bt216 => (some (3, bt216.1, (⟨#[]⟩ : ByteArray), false, (⟨#[]⟩ : ByteArray), (⟨#[]⟩ : ByteArray), false, false, 0, 0, 0, 0, 0, bt216.2))) = some (r1, r2, r3, r4, r5, r6, r7, r8, r9, r10, r11, r12, r13, r14) := by rw [if_pos rfl] at H; exact H
                  clear H
                  have H := H1
                  clear H1
                  replace H := Option.bind_eq_some_iff.mp H
                  obtain ⟨⟨t216, t217⟩, A700, H⟩ := H
                  replace H : (some (3, t216, (⟨#[]⟩ : ByteArray), false, (⟨#[]⟩ : ByteArray), (⟨#[]⟩ : ByteArray), false, false, 0, 0, 0, 0, 0, t217)) = some (r1, r2, r3, r4, r5, r6, r7, r8, r9, r10, r11, r12, r13, r14) := H
                  have A70 := Aside0.mk A700
                  clear A700
                  simp only [Option.some.injEq, Prod.mk.injEq] at H
                  obtain ⟨rfl, rfl, rfl, rfl, rfl, rfl, rfl, rfl, rfl, rfl, rfl, rfl, rfl, rfl⟩ := H
                  go_wp2_with (first | ((with_reducible refine gate_callee (f := 59) rfl ?_); refine goesL_ (some 117) rfl rfl Tryd.func59 (by kernel_rfl) rfl #[.slice (some ad184) l0.length c0, .int .i64 a1] rfl (by (try simp only [List.map_toArray, List.map_cons, List.map_nil]); first | done | rfl | (simp only [List.length_drop, List.length_take]; rfl)) ?_; (with_reducible refine (r13_numeral.calls kj38 _ _ l0 a1 false _ ?side1 ?side2 A51.out).mono ?_); (case side1 => repeat (first | exact (Kd.C_below HR0.out HB.out) | (with_reducible refine Kd.C_alloc ?_ _) | (with_reducible refine Kd.C_drewN ?_ _) | (with_reducible refine Kd.C_drew ?_))); (case side2 => exact HC0.out); rintro e w' ⟨rfl, ⟨nd, rfl⟩⟩; refine ⟨_, rfl, ?_⟩; (try (rw [drewN_self wc]; generalize hq_ : World.drewN wc _ = wc; have n0_ : Aside0 (wc.heap[gb183]? = some (.cells #[.int .i64 0, .string (⟨#[]⟩ : ByteArray), .string (⟨#[]⟩ : ByteArray), .bool false, .string (⟨#[]⟩ : ByteArray), .string (⟨#[]⟩ : ByteArray), .bool false, .bool false, .int .i64 0, .int .i64 0, .int .i64 0, .int .i64 0, .int .i64 0] 39 (0, 0))) := ⟨by rw [← hq_]; exact (by (with_reducible repeat (first | refine blk_drewN ?_ _ | refine blk_drew ?_ | refine blk_alloc ?_ _)); exact BK183.out)⟩; have n1_ : Aside0 (Below w.heap.size w wc) := ⟨by rw [← hq_]; exact (by repeat (first | (with_reducible first | exact HB.out | apply below_alloc | apply pw_below_drewN | apply below_drew1 | refine below_set ?_ GE183.out) | exact HB.out))⟩; clear BK183 HB hq_; have BK183 := n0_; have HB := n1_; clear n0_ n1_))) | ((with_reducible refine gate_callee (f := 50) rfl ?_); refine goesL_ (some 126) rfl rfl Tryd.func50 (by kernel_rfl) rfl #[.slice (some ad184) l0.length c0, .int .i64 a1, .string (⟨#[45, 45, 62]⟩ : ByteArray)] rfl (by (try simp only [List.map_toArray, List.map_cons, List.map_nil]); first | done | rfl | (simp only [List.length_drop, List.length_take]; rfl)) ?_; (with_reducible refine (r13_follows.calls kj38 _ _ l0 a1 (⟨#[45, 45, 62]⟩ : ByteArray) false _ ?side1 ?side2 A53.out).mono ?_); (case side1 => repeat (first | exact (Kd.C_below HR0.out HB.out) | (with_reducible refine Kd.C_alloc ?_ _) | (with_reducible refine Kd.C_drewN ?_ _) | (with_reducible refine Kd.C_drew ?_))); (case side2 => exact HC0.out); rintro e w' ⟨rfl, ⟨nd, rfl⟩⟩; refine ⟨_, rfl, ?_⟩; (try (rw [drewN_self wc]; generalize hq_ : World.drewN wc _ = wc; have n0_ : Aside0 (wc.heap[gb183]? = some (.cells #[.int .i64 0, .string (⟨#[]⟩ : ByteArray), .string (⟨#[]⟩ : ByteArray), .bool false, .string (⟨#[]⟩ : ByteArray), .string (⟨#[]⟩ : ByteArray), .bool false, .bool false, .int .i64 0, .int .i64 0, .int .i64 0, .int .i64 0, .int .i64 0] 39 (0, 0))) := ⟨by rw [← hq_]; exact (by (with_reducible repeat (first | refine blk_drewN ?_ _ | refine blk_drew ?_ | refine blk_alloc ?_ _)); exact BK183.out)⟩; have n1_ : Aside0 (Below w.heap.size w wc) := ⟨by rw [← hq_]; exact (by repeat (first | (with_reducible first | exact HB.out | apply below_alloc | apply pw_below_drewN | apply below_drew1 | refine below_set ?_ GE183.out) | exact HB.out))⟩; clear BK183 HB hq_; have BK183 := n0_; have HB := n1_; clear n0_ n1_))) | ((with_reducible refine gate_callee (f := 50) rfl ?_); refine goesL_ (some 133) rfl rfl Tryd.func50 (by kernel_rfl) rfl #[.slice (some ad184) l0.length c0, .int .i64 a1, .string (⟨#[60, 33, 45, 45]⟩ : ByteArray)] rfl (by (try simp only [List.map_toArray, List.map_cons, List.map_nil]); first | done | rfl | (simp only [List.length_drop, List.length_take]; rfl)) ?_; (with_reducible refine (r13_follows.calls kj38 _ _ l0 a1 (⟨#[60, 33, 45, 45]⟩ : ByteArray) false _ ?side1 ?side2 A57.out).mono ?_); (case side1 => repeat (first | exact (Kd.C_below HR0.out HB.out) | (with_reducible refine Kd.C_alloc ?_ _) | (with_reducible refine Kd.C_drewN ?_ _) | (with_reducible refine Kd.C_drew ?_))); (case side2 => exact HC0.out); rintro e w' ⟨rfl, ⟨nd, rfl⟩⟩; refine ⟨_, rfl, ?_⟩; (try (rw [drewN_self wc]; generalize hq_ : World.drewN wc _ = wc; have n0_ : Aside0 (wc.heap[gb183]? = some (.cells #[.int .i64 0, .string (⟨#[]⟩ : ByteArray), .string (⟨#[]⟩ : ByteArray), .bool false, .string (⟨#[]⟩ : ByteArray), .string (⟨#[]⟩ : ByteArray), .bool false, .bool false, .int .i64 0, .int .i64 0, .int .i64 0, .int .i64 0, .int .i64 0] 39 (0, 0))) := ⟨by rw [← hq_]; exact (by (with_reducible repeat (first | refine blk_drewN ?_ _ | refine blk_drew ?_ | refine blk_alloc ?_ _)); exact BK183.out)⟩; have n1_ : Aside0 (Below w.heap.size w wc) := ⟨by rw [← hq_]; exact (by repeat (first | (with_reducible first | exact HB.out | apply below_alloc | apply pw_below_drewN | apply below_drew1 | refine below_set ?_ GE183.out) | exact HB.out))⟩; clear BK183 HB hq_; have BK183 := n0_; have HB := n1_; clear n0_ n1_))) | ((with_reducible refine gate_callee (f := 58) rfl ?_); refine goesL_ (some 140) rfl rfl Tryd.func58 (by kernel_rfl) rfl #[.slice (some ad184) l0.length c0, .int .i64 a1] rfl (by (try simp only [List.map_toArray, List.map_cons, List.map_nil]); first | done | rfl | (simp only [List.length_drop, List.length_take]; rfl)) ?_; (with_reducible refine (r13_Begins.calls kj38 _ _ l0 a1 false _ ?side1 ?side2 A61.out).mono ?_); (case side1 => repeat (first | exact (Kd.C_below HR0.out HB.out) | (with_reducible refine Kd.C_alloc ?_ _) | (with_reducible refine Kd.C_drewN ?_ _) | (with_reducible refine Kd.C_drew ?_))); (case side2 => exact HC0.out); rintro e w' ⟨rfl, ⟨nd, rfl⟩⟩; refine ⟨_, rfl, ?_⟩; (try (rw [drewN_self wc]; generalize hq_ : World.drewN wc _ = wc; have n0_ : Aside0 (wc.heap[gb183]? = some (.cells #[.int .i64 0, .string (⟨#[]⟩ : ByteArray), .string (⟨#[]⟩ : ByteArray), .bool false, .string (⟨#[]⟩ : ByteArray), .string (⟨#[]⟩ : ByteArray), .bool false, .bool false, .int .i64 0, .int .i64 0, .int .i64 0, .int .i64 0, .int .i64 0] 39 (0, 0))) := ⟨by rw [← hq_]; exact (by (with_reducible repeat (first | refine blk_drewN ?_ _ | refine blk_drew ?_ | refine blk_alloc ?_ _)); exact BK183.out)⟩; have n1_ : Aside0 (Below w.heap.size w wc) := ⟨by rw [← hq_]; exact (by repeat (first | (with_reducible first | exact HB.out | apply below_alloc | apply pw_below_drewN | apply below_drew1 | refine below_set ?_ GE183.out) | exact HB.out))⟩; clear BK183 HB hq_; have BK183 := n0_; have HB := n1_; clear n0_ n1_))) | (go_at_call 58; (with_reducible refine (r13_Begins.calls kj38 _ _ l0 (wrap64 (a1 + 1)) true _ ?side1 ?side2 A68.out).mono ?_); (case side1 => repeat (first | exact (Kd.C_below HR0.out HB.out) | (with_reducible refine Kd.C_alloc ?_ _) | (with_reducible refine Kd.C_drewN ?_ _) | (with_reducible refine Kd.C_drew ?_))); (case side2 => exact HC0.out); rintro e w' ⟨rfl, ⟨nd, rfl⟩⟩; (try (rw [drewN_self wc]; generalize hq_ : World.drewN wc _ = wc; have n0_ : Aside0 (wc.heap[gb183]? = some (.cells #[.int .i64 0, .string (⟨#[]⟩ : ByteArray), .string (⟨#[]⟩ : ByteArray), .bool false, .string (⟨#[]⟩ : ByteArray), .string (⟨#[]⟩ : ByteArray), .bool false, .bool false, .int .i64 0, .int .i64 0, .int .i64 0, .int .i64 0, .int .i64 0] 39 (0, 0))) := ⟨by rw [← hq_]; exact (by (with_reducible repeat (first | refine blk_drewN ?_ _ | refine blk_drew ?_ | refine blk_alloc ?_ _)); exact BK183.out)⟩; have n1_ : Aside0 (Below w.heap.size w wc) := ⟨by rw [← hq_]; exact (by repeat (first | (with_reducible first | exact HB.out | apply below_alloc | apply pw_below_drewN | apply below_drew1 | refine below_set ?_ GE183.out) | exact HB.out))⟩; clear BK183 HB hq_; have BK183 := n0_; have HB := n1_; clear n0_ n1_))) | ((with_reducible refine gate_callee (f := 57) rfl ?_); refine goesL_ (some 159) rfl rfl Tryd.func57 (by kernel_rfl) rfl #[.slice (some ad184) l0.length c0, .int .i64 (wrap64 (a1 + 1))] rfl (by (try simp only [List.map_toArray, List.map_cons, List.map_nil]); first | done | rfl | (simp only [List.length_drop, List.length_take]; rfl)) ?_; (with_reducible refine (r13_Take.calls kj38 _ _ l0 (wrap64 (a1 + 1)) t216 t217 _ ?side1 ?side2 A70.out).mono ?_); (case side1 => repeat (first | exact (Kd.C_below HR0.out HB.out) | (with_reducible refine Kd.C_alloc ?_ _) | (with_reducible refine Kd.C_drewN ?_ _) | (with_reducible refine Kd.C_drew ?_))); (case side2 => exact HC0.out); rintro e w71 ⟨rfl, hb⟩; refine ⟨_, rfl, ?_⟩; have n0_ := Aside0.mk (blk_below (g := gb183) (o := .cells #[.int .i64 0, .string (⟨#[]⟩ : ByteArray), .string (⟨#[]⟩ : ByteArray), .bool false, .string (⟨#[]⟩ : ByteArray), .string (⟨#[]⟩ : ByteArray), .bool false, .bool false, .int .i64 0, .int .i64 0, .int .i64 0, .int .i64 0, .int .i64 0] 39 (0, 0)) (by (with_reducible repeat (first | refine blk_drewN ?_ _ | refine blk_drew ?_ | refine blk_alloc ?_ _)); exact BK183.out) hb); have n1_ := Aside0.mk (below_step (by repeat (first | (with_reducible first | exact HB.out | apply below_alloc | apply pw_below_drewN | apply below_drew1 | refine below_set ?_ GE183.out) | exact HB.out)) hb); clear BK183; clear HB; have BK183 := n0_; have HB := n1_; clear n0_ n1_; (try clear hb); (try clear hb2); (try clear hk); (try clear hi); have hcz72_0 : w71.cell? ⟨gb183, 0, none⟩ = some (.int .i64 0) := (blk_cell BK183.out 0).trans rfl; have hcz72_1 : w71.cell? ⟨gb183, 1, none⟩ = some (.string (⟨#[]⟩ : ByteArray)) := (blk_cell BK183.out 1).trans rfl; have hcz72_2 : w71.cell? ⟨gb183, 2, none⟩ = some (.string (⟨#[]⟩ : ByteArray)) := (blk_cell BK183.out 2).trans rfl; have hcz72_3 : w71.cell? ⟨gb183, 3, none⟩ = some (.bool false) := (blk_cell BK183.out 3).trans rfl; have hcz72_4 : w71.cell? ⟨gb183, 4, none⟩ = some (.string (⟨#[]⟩ : ByteArray)) := (blk_cell BK183.out 4).trans rfl; have hcz72_5 : w71.cell? ⟨gb183, 5, none⟩ = some (.string (⟨#[]⟩ : ByteArray)) := (blk_cell BK183.out 5).trans rfl; have hcz72_6 : w71.cell? ⟨gb183, 6, none⟩ = some (.bool false) := (blk_cell BK183.out 6).trans rfl; have hcz72_7 : w71.cell? ⟨gb183, 7, none⟩ = some (.bool false) := (blk_cell BK183.out 7).trans rfl; have hcz72_8 : w71.cell? ⟨gb183, 8, none⟩ = some (.int .i64 0) := (blk_cell BK183.out 8).trans rfl; have hcz72_9 : w71.cell? ⟨gb183, 9, none⟩ = some (.int .i64 0) := (blk_cell BK183.out 9).trans rfl; have hcz72_10 : w71.cell? ⟨gb183, 10, none⟩ = some (.int .i64 0) := (blk_cell BK183.out 10).trans rfl; have hcz72_11 : w71.cell? ⟨gb183, 11, none⟩ = some (.int .i64 0) := (blk_cell BK183.out 11).trans rfl; have hcz72_12 : w71.cell? ⟨gb183, 12, none⟩ = some (.int .i64 0) := (blk_cell BK183.out 12).trans rfl; have hfz72_0 := blk_frozen BK183.out 0; have hfz72_1 := blk_frozen BK183.out 1; have hfz72_2 := blk_frozen BK183.out 2; have hfz72_3 := blk_frozen BK183.out 3; have hfz72_4 := blk_frozen BK183.out 4; have hfz72_5 := blk_frozen BK183.out 5; have hfz72_6 := blk_frozen BK183.out 6; have hfz72_7 := blk_frozen BK183.out 7; have hfz72_8 := blk_frozen BK183.out 8; have hfz72_9 := blk_frozen BK183.out 9; have hfz72_10 := blk_frozen BK183.out 10; have hfz72_11 := blk_frozen BK183.out 11; have hfz72_12 := blk_frozen BK183.out 12) | ((with_reducible refine gate_store (t := 39) (p := 4) rfl ?_); refine store_all13 (t := 39) (p := 4) (v := ?vo_w73) gb183 (.int .i64 3) (.string t216) (.string (⟨#[]⟩ : ByteArray)) (.bool false) (.string (⟨#[]⟩ : ByteArray)) (.string (⟨#[]⟩ : ByteArray)) (.bool false) (.bool false) (.int .i64 0) (.int .i64 0) (.int .i64 0) (.int .i64 0) (.int .i64 0) ?hg ?ho ?hn (by (with_reducible repeat (first | refine blk_drewN ?_ _ | refine blk_drew ?_ | refine blk_alloc ?_ _)); exact BK183.out) ?hx ?hy ?hi ?h1 ?_; (case ho => rfl); (case hg => rfl); (case hn => rfl); (case hx => first | rfl | (go_simp; done) | (go_simp; rfl)); (case hy => first | with_reducible rfl | (go_simp; done) | (go_simp; rfl)); (case hi => kernel_rfl); (case h1 => rfl); intro w73 hw; have n0_ : Aside0 (w73.heap[gb183]? = some (.cells #[.int .i64 3, .string t216, .string (⟨#[]⟩ : ByteArray), .bool false, .string (⟨#[]⟩ : ByteArray), .string (⟨#[]⟩ : ByteArray), .bool false, .bool false, .int .i64 0, .int .i64 0, .int .i64 0, .int .i64 0, .int .i64 0] 39 (0, 0))) := ⟨(by rw [hw]; exact (putall13 (by (with_reducible repeat (first | refine blk_drewN ?_ _ | refine blk_drew ?_ | refine blk_alloc ?_ _)); exact BK183.out) (.int .i64 3) (.string t216) (.string (⟨#[]⟩ : ByteArray)) (.bool false) (.string (⟨#[]⟩ : ByteArray)) (.string (⟨#[]⟩ : ByteArray)) (.bool false) (.bool false) (.int .i64 0) (.int .i64 0) (.int .i64 0) (.int .i64 0) (.int .i64 0)))⟩; have n1_ : Aside0 (Below w.heap.size w w73) := ⟨(by rw [hw]; exact (belall13 (by repeat (first | (with_reducible first | exact HB.out | apply below_alloc | apply pw_below_drewN | apply below_drew1) | exact HB.out)) GE183.out (.int .i64 3) (.string t216) (.string (⟨#[]⟩ : ByteArray)) (.bool false) (.string (⟨#[]⟩ : ByteArray)) (.string (⟨#[]⟩ : ByteArray)) (.bool false) (.bool false) (.int .i64 0) (.int .i64 0) (.int .i64 0) (.int .i64 0) (.int .i64 0)))⟩; clear hw; clear BK183; clear HB; have BK183 := n0_; have HB := n1_; clear n0_ n1_))
                  refine bodyPost_ret (results_ct rfl _ _ gb183 39 #[.int .i64 3, .string t216, .string (⟨#[]⟩ : ByteArray), .bool false, .string (⟨#[]⟩ : ByteArray), .string (⟨#[]⟩ : ByteArray), .bool false, .bool false, .int .i64 0, .int .i64 0, .int .i64 0, .int .i64 0, .int .i64 0] (0, 0) _ rfl (by (with_reducible repeat (first | refine blk_drewN ?_ _ | refine blk_drew ?_ | refine blk_alloc ?_ _)); exact BK183.out) Tryd.underlying39 rfl (by kernel_rfl)) rfl ?_
                  exact ⟨by first | rfl | (simp [errW_none, errW_some] <;> rfl) | (simp [*, errW_none, errW_some] <;> rfl), by repeat (first | (with_reducible first | exact HB.out | apply below_alloc | apply pw_below_drewN | apply below_drew1 | refine below_set ?_ GE183.out) | exact HB.out)⟩
                 ·replace c69 := Bool.eq_false_iff.mpr c69
                  subst c69
                  have H1 : (r13_one.j4 kj38 a1 ((rd_T55 l0 a1).f0) (⟨#[58, 59, 44, 123, 125, 40, 41, 91, 93]⟩ : ByteArray)) = some (r1, r2, r3, r4, r5, r6, r7, r8, r9, r10, r11, r12, r13, r14) := by rw [if_neg (show ¬ (false = true) by decide)] at H; exact H
                  clear H
                  have H := H1
                  clear H1
                  have H' := Aside0.mk H
                  clear H
                  go_wp2_with (first | ((with_reducible refine gate_callee (f := 59) rfl ?_); refine goesL_ (some 117) rfl rfl Tryd.func59 (by kernel_rfl) rfl #[.slice (some ad184) l0.length c0, .int .i64 a1] rfl (by (try simp only [List.map_toArray, List.map_cons, List.map_nil]); first | done | rfl | (simp only [List.length_drop, List.length_take]; rfl)) ?_; (with_reducible refine (r13_numeral.calls kj38 _ _ l0 a1 false _ ?side1 ?side2 A51.out).mono ?_); (case side1 => repeat (first | exact (Kd.C_below HR0.out HB.out) | (with_reducible refine Kd.C_alloc ?_ _) | (with_reducible refine Kd.C_drewN ?_ _) | (with_reducible refine Kd.C_drew ?_))); (case side2 => exact HC0.out); rintro e w' ⟨rfl, ⟨nd, rfl⟩⟩; refine ⟨_, rfl, ?_⟩) | ((with_reducible refine gate_callee (f := 50) rfl ?_); refine goesL_ (some 126) rfl rfl Tryd.func50 (by kernel_rfl) rfl #[.slice (some ad184) l0.length c0, .int .i64 a1, .string (⟨#[45, 45, 62]⟩ : ByteArray)] rfl (by (try simp only [List.map_toArray, List.map_cons, List.map_nil]); first | done | rfl | (simp only [List.length_drop, List.length_take]; rfl)) ?_; (with_reducible refine (r13_follows.calls kj38 _ _ l0 a1 (⟨#[45, 45, 62]⟩ : ByteArray) false _ ?side1 ?side2 A53.out).mono ?_); (case side1 => repeat (first | exact (Kd.C_below HR0.out (by repeat (first | (with_reducible first | exact HB.out | apply below_alloc | apply pw_below_drewN | apply below_drew1 | refine below_set ?_ GE183.out) | exact HB.out))) | (with_reducible refine Kd.C_alloc ?_ _) | (with_reducible refine Kd.C_drewN ?_ _) | (with_reducible refine Kd.C_drew ?_))); (case side2 => exact HC0.out); rintro e w' ⟨rfl, ⟨nd, rfl⟩⟩; refine ⟨_, rfl, ?_⟩) | ((with_reducible refine gate_callee (f := 50) rfl ?_); refine goesL_ (some 133) rfl rfl Tryd.func50 (by kernel_rfl) rfl #[.slice (some ad184) l0.length c0, .int .i64 a1, .string (⟨#[60, 33, 45, 45]⟩ : ByteArray)] rfl (by (try simp only [List.map_toArray, List.map_cons, List.map_nil]); first | done | rfl | (simp only [List.length_drop, List.length_take]; rfl)) ?_; (with_reducible refine (r13_follows.calls kj38 _ _ l0 a1 (⟨#[60, 33, 45, 45]⟩ : ByteArray) false _ ?side1 ?side2 A57.out).mono ?_); (case side1 => repeat (first | exact (Kd.C_below HR0.out (by repeat (first | (with_reducible first | exact HB.out | apply below_alloc | apply pw_below_drewN | apply below_drew1 | refine below_set ?_ GE183.out) | exact HB.out))) | (with_reducible refine Kd.C_alloc ?_ _) | (with_reducible refine Kd.C_drewN ?_ _) | (with_reducible refine Kd.C_drew ?_))); (case side2 => exact HC0.out); rintro e w' ⟨rfl, ⟨nd, rfl⟩⟩; refine ⟨_, rfl, ?_⟩) | ((with_reducible refine gate_callee (f := 58) rfl ?_); refine goesL_ (some 140) rfl rfl Tryd.func58 (by kernel_rfl) rfl #[.slice (some ad184) l0.length c0, .int .i64 a1] rfl (by (try simp only [List.map_toArray, List.map_cons, List.map_nil]); first | done | rfl | (simp only [List.length_drop, List.length_take]; rfl)) ?_; (with_reducible refine (r13_Begins.calls kj38 _ _ l0 a1 false _ ?side1 ?side2 A61.out).mono ?_); (case side1 => repeat (first | exact (Kd.C_below HR0.out (by repeat (first | (with_reducible first | exact HB.out | apply below_alloc | apply pw_below_drewN | apply below_drew1 | refine below_set ?_ GE183.out) | exact HB.out))) | (with_reducible refine Kd.C_alloc ?_ _) | (with_reducible refine Kd.C_drewN ?_ _) | (with_reducible refine Kd.C_drew ?_))); (case side2 => exact HC0.out); rintro e w' ⟨rfl, ⟨nd, rfl⟩⟩; refine ⟨_, rfl, ?_⟩) | (go_at_call 58; (with_reducible refine (r13_Begins.calls kj38 _ _ l0 (wrap64 (a1 + 1)) false _ ?side1 ?side2 A68.out).mono ?_); (case side1 => repeat (first | exact (Kd.C_below HR0.out (by repeat (first | (with_reducible first | exact HB.out | apply below_alloc | apply pw_below_drewN | apply below_drew1 | refine below_set ?_ GE183.out) | exact HB.out))) | (with_reducible refine Kd.C_alloc ?_ _) | (with_reducible refine Kd.C_drewN ?_ _) | (with_reducible refine Kd.C_drew ?_))); (case side2 => exact HC0.out); rintro e w' ⟨rfl, ⟨nd, rfl⟩⟩))
                  go_meet
                  case rel => exact ⟨_, (0), ((⟨#[]⟩ : ByteArray)), ((⟨#[]⟩ : ByteArray)), (false), ((⟨#[]⟩ : ByteArray)), ((⟨#[]⟩ : ByteArray)), (false), (false), (0), (0), (0), (0), (0), H', ⟨by have := HJ35.out; have := HJ38.out; first | omega | exact Nat.le_refl _⟩, ⟨by (with_reducible repeat (first | refine blk_drewN ?_ _ | refine blk_drew ?_ | refine blk_alloc ?_ _)); exact BK183.out⟩, ⟨by repeat (first | (with_reducible first | exact HB.out | apply below_alloc | apply pw_below_drewN | apply below_drew1 | refine below_set ?_ GE183.out) | exact HB.out)⟩⟩
                ·rw [if_neg c67] at H
                 have c67b0 : (((rd_T55 l0 a1).f0) == 64) = false := beq_eq_false_iff_ne.mpr c67
                 have c67b1 : (((rd_T55 l0 a1).f0) != 64) = true := bne_iff_ne.mpr c67
                 have H' := Aside0.mk H
                 clear H
                 go_wp2_with (first | ((with_reducible refine gate_callee (f := 59) rfl ?_); refine goesL_ (some 117) rfl rfl Tryd.func59 (by kernel_rfl) rfl #[.slice (some ad184) l0.length c0, .int .i64 a1] rfl (by (try simp only [List.map_toArray, List.map_cons, List.map_nil]); first | done | rfl | (simp only [List.length_drop, List.length_take]; rfl)) ?_; (with_reducible refine (r13_numeral.calls kj38 _ _ l0 a1 false _ ?side1 ?side2 A51.out).mono ?_); (case side1 => repeat (first | exact (Kd.C_below HR0.out HB.out) | (with_reducible refine Kd.C_alloc ?_ _) | (with_reducible refine Kd.C_drewN ?_ _) | (with_reducible refine Kd.C_drew ?_))); (case side2 => exact HC0.out); rintro e w' ⟨rfl, ⟨nd, rfl⟩⟩; refine ⟨_, rfl, ?_⟩) | ((with_reducible refine gate_callee (f := 50) rfl ?_); refine goesL_ (some 126) rfl rfl Tryd.func50 (by kernel_rfl) rfl #[.slice (some ad184) l0.length c0, .int .i64 a1, .string (⟨#[45, 45, 62]⟩ : ByteArray)] rfl (by (try simp only [List.map_toArray, List.map_cons, List.map_nil]); first | done | rfl | (simp only [List.length_drop, List.length_take]; rfl)) ?_; (with_reducible refine (r13_follows.calls kj38 _ _ l0 a1 (⟨#[45, 45, 62]⟩ : ByteArray) false _ ?side1 ?side2 A53.out).mono ?_); (case side1 => repeat (first | exact (Kd.C_below HR0.out (by repeat (first | (with_reducible first | exact HB.out | apply below_alloc | apply pw_below_drewN | apply below_drew1 | refine below_set ?_ GE183.out) | exact HB.out))) | (with_reducible refine Kd.C_alloc ?_ _) | (with_reducible refine Kd.C_drewN ?_ _) | (with_reducible refine Kd.C_drew ?_))); (case side2 => exact HC0.out); rintro e w' ⟨rfl, ⟨nd, rfl⟩⟩; refine ⟨_, rfl, ?_⟩) | ((with_reducible refine gate_callee (f := 50) rfl ?_); refine goesL_ (some 133) rfl rfl Tryd.func50 (by kernel_rfl) rfl #[.slice (some ad184) l0.length c0, .int .i64 a1, .string (⟨#[60, 33, 45, 45]⟩ : ByteArray)] rfl (by (try simp only [List.map_toArray, List.map_cons, List.map_nil]); first | done | rfl | (simp only [List.length_drop, List.length_take]; rfl)) ?_; (with_reducible refine (r13_follows.calls kj38 _ _ l0 a1 (⟨#[60, 33, 45, 45]⟩ : ByteArray) false _ ?side1 ?side2 A57.out).mono ?_); (case side1 => repeat (first | exact (Kd.C_below HR0.out (by repeat (first | (with_reducible first | exact HB.out | apply below_alloc | apply pw_below_drewN | apply below_drew1 | refine below_set ?_ GE183.out) | exact HB.out))) | (with_reducible refine Kd.C_alloc ?_ _) | (with_reducible refine Kd.C_drewN ?_ _) | (with_reducible refine Kd.C_drew ?_))); (case side2 => exact HC0.out); rintro e w' ⟨rfl, ⟨nd, rfl⟩⟩; refine ⟨_, rfl, ?_⟩) | ((with_reducible refine gate_callee (f := 58) rfl ?_); refine goesL_ (some 140) rfl rfl Tryd.func58 (by kernel_rfl) rfl #[.slice (some ad184) l0.length c0, .int .i64 a1] rfl (by (try simp only [List.map_toArray, List.map_cons, List.map_nil]); first | done | rfl | (simp only [List.length_drop, List.length_take]; rfl)) ?_; (with_reducible refine (r13_Begins.calls kj38 _ _ l0 a1 false _ ?side1 ?side2 A61.out).mono ?_); (case side1 => repeat (first | exact (Kd.C_below HR0.out (by repeat (first | (with_reducible first | exact HB.out | apply below_alloc | apply pw_below_drewN | apply below_drew1 | refine below_set ?_ GE183.out) | exact HB.out))) | (with_reducible refine Kd.C_alloc ?_ _) | (with_reducible refine Kd.C_drewN ?_ _) | (with_reducible refine Kd.C_drew ?_))); (case side2 => exact HC0.out); rintro e w' ⟨rfl, ⟨nd, rfl⟩⟩; refine ⟨_, rfl, ?_⟩))
                 go_meet
                 case rel => exact ⟨_, (0), ((⟨#[]⟩ : ByteArray)), ((⟨#[]⟩ : ByteArray)), (false), ((⟨#[]⟩ : ByteArray)), ((⟨#[]⟩ : ByteArray)), (false), (false), (0), (0), (0), (0), (0), H', ⟨by have := HJ35.out; have := HJ38.out; first | omega | exact Nat.le_refl _⟩, ⟨by (with_reducible repeat (first | refine blk_drewN ?_ _ | refine blk_drew ?_ | refine blk_alloc ?_ _)); exact BK183.out⟩, ⟨by repeat (first | (with_reducible first | exact HB.out | apply below_alloc | apply pw_below_drewN | apply below_drew1 | refine below_set ?_ GE183.out) | exact HB.out)⟩⟩
   case rest =>
    clear HC5
    try clear c1
    try clear p1
    try clear q1
    try clear hx1
    try clear c2
    try clear p2
    try clear c3
    try clear c3b0
    try clear c4
    try clear c4b0
    try clear c5
    try clear c6
    try clear p6
    try clear c8
    try clear c9
    try clear c9b0
    try clear c11
    try clear c12
    try clear c13
    try clear c15
    try clear c18
    try clear p18
    try clear q18
    try clear hx18
    try clear c19
    try clear c19b0
    try clear c19b1
    try clear c21
    try clear c29
    try clear c30
    try clear c37
    try clear c37b0
    try clear c37b1
    try clear c38
    try clear c40
    try clear c40b0
    try clear c40b1
    try clear c43
    try clear c45
    try clear c50
    try clear c52
    try clear c54
    try clear c57
    try clear c58
    try clear c59
    try clear c61
    try clear c62
    try clear p64
    try clear c67
    try clear c67b0
    try clear c67b1
    try clear c69
    try clear hcz22_0
    try clear hcz22_1
    try clear hcz22_10
    try clear hcz22_11
    try clear hcz22_12
    try clear hcz22_2
    try clear hcz22_3
    try clear hcz22_4
    try clear hcz22_5
    try clear hcz22_6
    try clear hcz22_7
    try clear hcz22_8
    try clear hcz22_9
    try clear hcz24_0
    try clear hcz24_1
    try clear hcz24_10
    try clear hcz24_11
    try clear hcz24_12
    try clear hcz24_2
    try clear hcz24_3
    try clear hcz24_4
    try clear hcz24_5
    try clear hcz24_6
    try clear hcz24_7
    try clear hcz24_8
    try clear hcz24_9
    try clear hcz26_0
    try clear hcz26_1
    try clear hcz26_10
    try clear hcz26_11
    try clear hcz26_12
    try clear hcz26_2
    try clear hcz26_3
    try clear hcz26_4
    try clear hcz26_5
    try clear hcz26_6
    try clear hcz26_7
    try clear hcz26_8
    try clear hcz26_9
    try clear hcz27_0
    try clear hcz27_1
    try clear hcz27_10
    try clear hcz27_11
    try clear hcz27_12
    try clear hcz27_2
    try clear hcz27_3
    try clear hcz27_4
    try clear hcz27_5
    try clear hcz27_6
    try clear hcz27_7
    try clear hcz27_8
    try clear hcz27_9
    try clear hcz31_0
    try clear hcz31_1
    try clear hcz31_10
    try clear hcz31_11
    try clear hcz31_12
    try clear hcz31_2
    try clear hcz31_3
    try clear hcz31_4
    try clear hcz31_5
    try clear hcz31_6
    try clear hcz31_7
    try clear hcz31_8
    try clear hcz31_9
    try clear hcz33_0
    try clear hcz33_1
    try clear hcz33_10
    try clear hcz33_11
    try clear hcz33_12
    try clear hcz33_2
    try clear hcz33_3
    try clear hcz33_4
    try clear hcz33_5
    try clear hcz33_6
    try clear hcz33_7
    try clear hcz33_8
    try clear hcz33_9
    try clear hcz34_0
    try clear hcz34_1
    try clear hcz34_10
    try clear hcz34_11
    try clear hcz34_12
    try clear hcz34_2
    try clear hcz34_3
    try clear hcz34_4
    try clear hcz34_5
    try clear hcz34_6
    try clear hcz34_7
    try clear hcz34_8
    try clear hcz34_9
    try clear hcz49_0
    try clear hcz49_1
    try clear hcz49_10
    try clear hcz49_11
    try clear hcz49_12
    try clear hcz49_2
    try clear hcz49_3
    try clear hcz49_4
    try clear hcz49_5
    try clear hcz49_6
    try clear hcz49_7
    try clear hcz49_8
    try clear hcz49_9
    try clear hcz55_0
    try clear hcz55_1
    try clear hcz55_10
    try clear hcz55_11
    try clear hcz55_12
    try clear hcz55_2
    try clear hcz55_3
    try clear hcz55_4
    try clear hcz55_5
    try clear hcz55_6
    try clear hcz55_7
    try clear hcz55_8
    try clear hcz55_9
    try clear hcz59_0
    try clear hcz59_1
    try clear hcz59_10
    try clear hcz59_11
    try clear hcz59_12
    try clear hcz59_2
    try clear hcz59_3
    try clear hcz59_4
    try clear hcz59_5
    try clear hcz59_6
    try clear hcz59_7
    try clear hcz59_8
    try clear hcz59_9
    try clear hcz65_0
    try clear hcz65_1
    try clear hcz65_10
    try clear hcz65_11
    try clear hcz65_12
    try clear hcz65_2
    try clear hcz65_3
    try clear hcz65_4
    try clear hcz65_5
    try clear hcz65_6
    try clear hcz65_7
    try clear hcz65_8
    try clear hcz65_9
    try clear hcz72_0
    try clear hcz72_1
    try clear hcz72_10
    try clear hcz72_11
    try clear hcz72_12
    try clear hcz72_2
    try clear hcz72_3
    try clear hcz72_4
    try clear hcz72_5
    try clear hcz72_6
    try clear hcz72_7
    try clear hcz72_8
    try clear hcz72_9
    try clear hfz22_0
    try clear hfz22_1
    try clear hfz22_10
    try clear hfz22_11
    try clear hfz22_12
    try clear hfz22_2
    try clear hfz22_3
    try clear hfz22_4
    try clear hfz22_5
    try clear hfz22_6
    try clear hfz22_7
    try clear hfz22_8
    try clear hfz22_9
    try clear hfz24_0
    try clear hfz24_1
    try clear hfz24_10
    try clear hfz24_11
    try clear hfz24_12
    try clear hfz24_2
    try clear hfz24_3
    try clear hfz24_4
    try clear hfz24_5
    try clear hfz24_6
    try clear hfz24_7
    try clear hfz24_8
    try clear hfz24_9
    try clear hfz26_0
    try clear hfz26_1
    try clear hfz26_10
    try clear hfz26_11
    try clear hfz26_12
    try clear hfz26_2
    try clear hfz26_3
    try clear hfz26_4
    try clear hfz26_5
    try clear hfz26_6
    try clear hfz26_7
    try clear hfz26_8
    try clear hfz26_9
    try clear hfz27_0
    try clear hfz27_1
    try clear hfz27_10
    try clear hfz27_11
    try clear hfz27_12
    try clear hfz27_2
    try clear hfz27_3
    try clear hfz27_4
    try clear hfz27_5
    try clear hfz27_6
    try clear hfz27_7
    try clear hfz27_8
    try clear hfz27_9
    try clear hfz31_0
    try clear hfz31_1
    try clear hfz31_10
    try clear hfz31_11
    try clear hfz31_12
    try clear hfz31_2
    try clear hfz31_3
    try clear hfz31_4
    try clear hfz31_5
    try clear hfz31_6
    try clear hfz31_7
    try clear hfz31_8
    try clear hfz31_9
    try clear hfz33_0
    try clear hfz33_1
    try clear hfz33_10
    try clear hfz33_11
    try clear hfz33_12
    try clear hfz33_2
    try clear hfz33_3
    try clear hfz33_4
    try clear hfz33_5
    try clear hfz33_6
    try clear hfz33_7
    try clear hfz33_8
    try clear hfz33_9
    try clear hfz34_0
    try clear hfz34_1
    try clear hfz34_10
    try clear hfz34_11
    try clear hfz34_12
    try clear hfz34_2
    try clear hfz34_3
    try clear hfz34_4
    try clear hfz34_5
    try clear hfz34_6
    try clear hfz34_7
    try clear hfz34_8
    try clear hfz34_9
    try clear hfz49_0
    try clear hfz49_1
    try clear hfz49_10
    try clear hfz49_11
    try clear hfz49_12
    try clear hfz49_2
    try clear hfz49_3
    try clear hfz49_4
    try clear hfz49_5
    try clear hfz49_6
    try clear hfz49_7
    try clear hfz49_8
    try clear hfz49_9
    try clear hfz55_0
    try clear hfz55_1
    try clear hfz55_10
    try clear hfz55_11
    try clear hfz55_12
    try clear hfz55_2
    try clear hfz55_3
    try clear hfz55_4
    try clear hfz55_5
    try clear hfz55_6
    try clear hfz55_7
    try clear hfz55_8
    try clear hfz55_9
    try clear hfz59_0
    try clear hfz59_1
    try clear hfz59_10
    try clear hfz59_11
    try clear hfz59_12
    try clear hfz59_2
    try clear hfz59_3
    try clear hfz59_4
    try clear hfz59_5
    try clear hfz59_6
    try clear hfz59_7
    try clear hfz59_8
    try clear hfz59_9
    try clear hfz65_0
    try clear hfz65_1
    try clear hfz65_10
    try clear hfz65_11
    try clear hfz65_12
    try clear hfz65_2
    try clear hfz65_3
    try clear hfz65_4
    try clear hfz65_5
    try clear hfz65_6
    try clear hfz65_7
    try clear hfz65_8
    try clear hfz65_9
    try clear hfz72_0
    try clear hfz72_1
    try clear hfz72_10
    try clear hfz72_11
    try clear hfz72_12
    try clear hfz72_2
    try clear hfz72_3
    try clear hfz72_4
    try clear hfz72_5
    try clear hfz72_6
    try clear hfz72_7
    try clear hfz72_8
    try clear hfz72_9
    try clear hx184_0
    try clear hx184_1
    try clear p1
    try clear p18
    try clear p184
    try clear p2
    try clear p6
    try clear q1
    try clear q18
    try clear q184
    obtain ⟨kq, x184000_4, x184001_4, x184002_4, x184003_4, x184004_4, x184005_4, x184006_4, x184007_4, x184008_4, x184009_4, x184010_4, x184011_4, x184012_4, HA, HJ4, BK183, HB⟩ := hcut
    cases kq with
    | zero => exact absurd HA.out (by simp [r13_one.j4])
    | succ kj4 =>
     have H := HA.out
     clear HA
     simp only [r13_one.j4] at H
     have H' := Aside0.mk H
     clear H
     go_wp2
     go_loopg [16] kj4 (fun kq v16 w' => ∃ (x16_2 : Int) (x184000_2 : Int) (x184001_2 : ByteArray) (x184002_2 : ByteArray) (x184003_2 : Bool) (x184004_2 : ByteArray) (x184005_2 : ByteArray) (x184006_2 : Bool) (x184007_2 : Bool) (x184008_2 : Int) (x184009_2 : Int) (x184010_2 : Int) (x184011_2 : Int) (x184012_2 : Int), v16 = .int .i64 x16_2 ∧ Aside0 (r13_one.l2 kq a1 ((rd_T55 l0 a1).f0) (⟨#[58, 59, 44, 123, 125, 40, 41, 91, 93]⟩ : ByteArray) x16_2 = some (r1, r2, r3, r4, r5, r6, r7, r8, r9, r10, r11, r12, r13, r14)) ∧ Aside0 (kq ≤ kj4) ∧ Aside0 (w'.heap[gb183]? = some (.cells #[.int .i64 x184000_2, .string x184001_2, .string x184002_2, .bool x184003_2, .string x184004_2, .string x184005_2, .bool x184006_2, .bool x184007_2, .int .i64 x184008_2, .int .i64 x184009_2, .int .i64 x184010_2, .int .i64 x184011_2, .int .i64 x184012_2] 39 (0, 0))) ∧ Aside0 (Below w.heap.size w w'))
     case atStart => exact ⟨(0), (x184000_4), (x184001_4), (x184002_4), (x184003_4), (x184004_4), (x184005_4), (x184006_4), (x184007_4), (x184008_4), (x184009_4), (x184010_4), (x184011_4), (x184012_4), (by first | rfl | (simp; done) | (simp [bne_nil_]; done) | (simp [*]; done) | (simp [wrap64]; done) | (refine congrArg (Value.int .i64) ?_; unfold wrap64; omega)), H', ⟨Nat.le_refl _⟩, ⟨by (with_reducible repeat (first | refine blk_drewN ?_ _ | refine blk_drew ?_ | refine blk_alloc ?_ _)); exact BK183.out⟩, ⟨by repeat (first | (with_reducible first | exact HB.out | apply below_alloc | apply pw_below_drewN | apply below_drew1 | refine below_set ?_ GE183.out) | exact HB.out)⟩⟩
     case round =>
      clear H'
      try clear c1
      try clear p1
      try clear q1
      try clear hx1
      try clear c2
      try clear p2
      try clear c3
      try clear c3b0
      try clear c4
      try clear c4b0
      try clear c5
      try clear c6
      try clear p6
      try clear c8
      try clear c9
      try clear c9b0
      try clear c11
      try clear c12
      try clear c13
      try clear c15
      try clear c18
      try clear p18
      try clear q18
      try clear hx18
      try clear c19
      try clear c19b0
      try clear c19b1
      try clear c21
      try clear c29
      try clear c30
      try clear c37
      try clear c37b0
      try clear c37b1
      try clear c38
      try clear c40
      try clear c40b0
      try clear c40b1
      try clear c43
      try clear c45
      try clear c50
      try clear c52
      try clear c54
      try clear c57
      try clear c58
      try clear c59
      try clear c61
      try clear c62
      try clear p64
      try clear c67
      try clear c67b0
      try clear c67b1
      try clear c69
      try clear hcz22_0
      try clear hcz22_1
      try clear hcz22_10
      try clear hcz22_11
      try clear hcz22_12
      try clear hcz22_2
      try clear hcz22_3
      try clear hcz22_4
      try clear hcz22_5
      try clear hcz22_6
      try clear hcz22_7
      try clear hcz22_8
      try clear hcz22_9
      try clear hcz24_0
      try clear hcz24_1
      try clear hcz24_10
      try clear hcz24_11
      try clear hcz24_12
      try clear hcz24_2
      try clear hcz24_3
      try clear hcz24_4
      try clear hcz24_5
      try clear hcz24_6
      try clear hcz24_7
      try clear hcz24_8
      try clear hcz24_9
      try clear hcz26_0
      try clear hcz26_1
      try clear hcz26_10
      try clear hcz26_11
      try clear hcz26_12
      try clear hcz26_2
      try clear hcz26_3
      try clear hcz26_4
      try clear hcz26_5
      try clear hcz26_6
      try clear hcz26_7
      try clear hcz26_8
      try clear hcz26_9
      try clear hcz27_0
      try clear hcz27_1
      try clear hcz27_10
      try clear hcz27_11
      try clear hcz27_12
      try clear hcz27_2
      try clear hcz27_3
      try clear hcz27_4
      try clear hcz27_5
      try clear hcz27_6
      try clear hcz27_7
      try clear hcz27_8
      try clear hcz27_9
      try clear hcz31_0
      try clear hcz31_1
      try clear hcz31_10
      try clear hcz31_11
      try clear hcz31_12
      try clear hcz31_2
      try clear hcz31_3
      try clear hcz31_4
      try clear hcz31_5
      try clear hcz31_6
      try clear hcz31_7
      try clear hcz31_8
      try clear hcz31_9
      try clear hcz33_0
      try clear hcz33_1
      try clear hcz33_10
      try clear hcz33_11
      try clear hcz33_12
      try clear hcz33_2
      try clear hcz33_3
      try clear hcz33_4
      try clear hcz33_5
      try clear hcz33_6
      try clear hcz33_7
      try clear hcz33_8
      try clear hcz33_9
      try clear hcz34_0
      try clear hcz34_1
      try clear hcz34_10
      try clear hcz34_11
      try clear hcz34_12
      try clear hcz34_2
      try clear hcz34_3
      try clear hcz34_4
      try clear hcz34_5
      try clear hcz34_6
      try clear hcz34_7
      try clear hcz34_8
      try clear hcz34_9
      try clear hcz49_0
      try clear hcz49_1
      try clear hcz49_10
      try clear hcz49_11
      try clear hcz49_12
      try clear hcz49_2
      try clear hcz49_3
      try clear hcz49_4
      try clear hcz49_5
      try clear hcz49_6
      try clear hcz49_7
      try clear hcz49_8
      try clear hcz49_9
      try clear hcz55_0
      try clear hcz55_1
      try clear hcz55_10
      try clear hcz55_11
      try clear hcz55_12
      try clear hcz55_2
      try clear hcz55_3
      try clear hcz55_4
      try clear hcz55_5
      try clear hcz55_6
      try clear hcz55_7
      try clear hcz55_8
      try clear hcz55_9
      try clear hcz59_0
      try clear hcz59_1
      try clear hcz59_10
      try clear hcz59_11
      try clear hcz59_12
      try clear hcz59_2
      try clear hcz59_3
      try clear hcz59_4
      try clear hcz59_5
      try clear hcz59_6
      try clear hcz59_7
      try clear hcz59_8
      try clear hcz59_9
      try clear hcz65_0
      try clear hcz65_1
      try clear hcz65_10
      try clear hcz65_11
      try clear hcz65_12
      try clear hcz65_2
      try clear hcz65_3
      try clear hcz65_4
      try clear hcz65_5
      try clear hcz65_6
      try clear hcz65_7
      try clear hcz65_8
      try clear hcz65_9
      try clear hcz72_0
      try clear hcz72_1
      try clear hcz72_10
      try clear hcz72_11
      try clear hcz72_12
      try clear hcz72_2
      try clear hcz72_3
      try clear hcz72_4
      try clear hcz72_5
      try clear hcz72_6
      try clear hcz72_7
      try clear hcz72_8
      try clear hcz72_9
      try clear hfz22_0
      try clear hfz22_1
      try clear hfz22_10
      try clear hfz22_11
      try clear hfz22_12
      try clear hfz22_2
      try clear hfz22_3
      try clear hfz22_4
      try clear hfz22_5
      try clear hfz22_6
      try clear hfz22_7
      try clear hfz22_8
      try clear hfz22_9
      try clear hfz24_0
      try clear hfz24_1
      try clear hfz24_10
      try clear hfz24_11
      try clear hfz24_12
      try clear hfz24_2
      try clear hfz24_3
      try clear hfz24_4
      try clear hfz24_5
      try clear hfz24_6
      try clear hfz24_7
      try clear hfz24_8
      try clear hfz24_9
      try clear hfz26_0
      try clear hfz26_1
      try clear hfz26_10
      try clear hfz26_11
      try clear hfz26_12
      try clear hfz26_2
      try clear hfz26_3
      try clear hfz26_4
      try clear hfz26_5
      try clear hfz26_6
      try clear hfz26_7
      try clear hfz26_8
      try clear hfz26_9
      try clear hfz27_0
      try clear hfz27_1
      try clear hfz27_10
      try clear hfz27_11
      try clear hfz27_12
      try clear hfz27_2
      try clear hfz27_3
      try clear hfz27_4
      try clear hfz27_5
      try clear hfz27_6
      try clear hfz27_7
      try clear hfz27_8
      try clear hfz27_9
      try clear hfz31_0
      try clear hfz31_1
      try clear hfz31_10
      try clear hfz31_11
      try clear hfz31_12
      try clear hfz31_2
      try clear hfz31_3
      try clear hfz31_4
      try clear hfz31_5
      try clear hfz31_6
      try clear hfz31_7
      try clear hfz31_8
      try clear hfz31_9
      try clear hfz33_0
      try clear hfz33_1
      try clear hfz33_10
      try clear hfz33_11
      try clear hfz33_12
      try clear hfz33_2
      try clear hfz33_3
      try clear hfz33_4
      try clear hfz33_5
      try clear hfz33_6
      try clear hfz33_7
      try clear hfz33_8
      try clear hfz33_9
      try clear hfz34_0
      try clear hfz34_1
      try clear hfz34_10
      try clear hfz34_11
      try clear hfz34_12
      try clear hfz34_2
      try clear hfz34_3
      try clear hfz34_4
      try clear hfz34_5
      try clear hfz34_6
      try clear hfz34_7
      try clear hfz34_8
      try clear hfz34_9
      try clear hfz49_0
      try clear hfz49_1
      try clear hfz49_10
      try clear hfz49_11
      try clear hfz49_12
      try clear hfz49_2
      try clear hfz49_3
      try clear hfz49_4
      try clear hfz49_5
      try clear hfz49_6
      try clear hfz49_7
      try clear hfz49_8
      try clear hfz49_9
      try clear hfz55_0
      try clear hfz55_1
      try clear hfz55_10
      try clear hfz55_11
      try clear hfz55_12
      try clear hfz55_2
      try clear hfz55_3
      try clear hfz55_4
      try clear hfz55_5
      try clear hfz55_6
      try clear hfz55_7
      try clear hfz55_8
      try clear hfz55_9
      try clear hfz59_0
      try clear hfz59_1
      try clear hfz59_10
      try clear hfz59_11
      try clear hfz59_12
      try clear hfz59_2
      try clear hfz59_3
      try clear hfz59_4
      try clear hfz59_5
      try clear hfz59_6
      try clear hfz59_7
      try clear hfz59_8
      try clear hfz59_9
      try clear hfz65_0
      try clear hfz65_1
      try clear hfz65_10
      try clear hfz65_11
      try clear hfz65_12
      try clear hfz65_2
      try clear hfz65_3
      try clear hfz65_4
      try clear hfz65_5
      try clear hfz65_6
      try clear hfz65_7
      try clear hfz65_8
      try clear hfz65_9
      try clear hfz72_0
      try clear hfz72_1
      try clear hfz72_10
      try clear hfz72_11
      try clear hfz72_12
      try clear hfz72_2
      try clear hfz72_3
      try clear hfz72_4
      try clear hfz72_5
      try clear hfz72_6
      try clear hfz72_7
      try clear hfz72_8
      try clear hfz72_9
      try clear hx184_0
      try clear hx184_1
      try clear p1
      try clear p18
      try clear p184
      try clear p2
      try clear p6
      try clear p64
      try clear q1
      try clear q18
      try clear q184
      obtain ⟨x16_2, x184000_2, x184001_2, x184002_2, x184003_2, x184004_2, x184005_2, x184006_2, x184007_2, x184008_2, x184009_2, x184010_2, x184011_2, x184012_2, rfl, HA, HK2, BK183, HB⟩ := hrel
      cases gk with
      | zero => exact absurd HA.out (by simp [r13_one.l2])
      | succ k2 =>
       have H := HA.out
       clear HA
       simp only [r13_one.l2] at H
       by_cases c74 : x16_2 < ((⟨#[58, 59, 44, 123, 125, 40, 41, 91, 93]⟩ : ByteArray).size : Int)
       ·rw [if_pos c74] at H
        have c74b0 : decide (x16_2 < ((⟨#[58, 59, 44, 123, 125, 40, 41, 91, 93]⟩ : ByteArray).size : Int)) = true := decide_eq_true c74
        (try (have c74b1 : decide (x16_2 < (9 : Int)) = true := decide_eq_true (show (x16_2 < (9 : Int)) from c74)))
        clear c74
        by_cases c75 : 0 ≤ x16_2
        ·rw [if_pos c75] at H
         have c75b0 : decide (0 ≤ x16_2) = true := decide_eq_true c75
         clear c75
         by_cases c77 : (wrap64 (bt (⟨#[58, 59, 44, 123, 125, 40, 41, 91, 93]⟩ : ByteArray) x16_2)) = ((rd_T55 l0 a1).f0)
         ·rw [if_pos c77] at H
          have c77b0 : ((wrap64 (bt (⟨#[58, 59, 44, 123, 125, 40, 41, 91, 93]⟩ : ByteArray) x16_2)) == ((rd_T55 l0 a1).f0)) = true := beq_iff_eq.mpr c77
          have c77b1 : ((wrap64 (bt (⟨#[58, 59, 44, 123, 125, 40, 41, 91, 93]⟩ : ByteArray) x16_2)) != ((rd_T55 l0 a1).f0)) = false := bne_eq_false_iff_eq.mpr c77
          clear c77
          simp only [Option.some.injEq, Prod.mk.injEq] at H
          obtain ⟨rfl, rfl, rfl, rfl, rfl, rfl, rfl, rfl, rfl, rfl, rfl, rfl, rfl, rfl⟩ := H
          have p76 : 0 ≤ (x16_2 : Int) := of_decide_eq_true (by first | (with_reducible assumption) | assumption)
          have q76 : x16_2 < (9 : Int) := of_decide_eq_true (by first | (with_reducible assumption) | assumption)
          have hx76 := bt_at (⟨#[58, 59, 44, 123, 125, 40, 41, 91, 93]⟩ : ByteArray) x16_2
          replace p76 := eq_true p76
          replace q76 := eq_true q76
          have hcz78_0 : wr.cell? ⟨gb183, 0, none⟩ = some (.int .i64 x184000_2) := (blk_cell BK183.out 0).trans rfl
          have hcz78_1 : wr.cell? ⟨gb183, 1, none⟩ = some (.string x184001_2) := (blk_cell BK183.out 1).trans rfl
          have hcz78_2 : wr.cell? ⟨gb183, 2, none⟩ = some (.string x184002_2) := (blk_cell BK183.out 2).trans rfl
          have hcz78_3 : wr.cell? ⟨gb183, 3, none⟩ = some (.bool x184003_2) := (blk_cell BK183.out 3).trans rfl
          have hcz78_4 : wr.cell? ⟨gb183, 4, none⟩ = some (.string x184004_2) := (blk_cell BK183.out 4).trans rfl
          have hcz78_5 : wr.cell? ⟨gb183, 5, none⟩ = some (.string x184005_2) := (blk_cell BK183.out 5).trans rfl
          have hcz78_6 : wr.cell? ⟨gb183, 6, none⟩ = some (.bool x184006_2) := (blk_cell BK183.out 6).trans rfl
          have hcz78_7 : wr.cell? ⟨gb183, 7, none⟩ = some (.bool x184007_2) := (blk_cell BK183.out 7).trans rfl
          have hcz78_8 : wr.cell? ⟨gb183, 8, none⟩ = some (.int .i64 x184008_2) := (blk_cell BK183.out 8).trans rfl
          have hcz78_9 : wr.cell? ⟨gb183, 9, none⟩ = some (.int .i64 x184009_2) := (blk_cell BK183.out 9).trans rfl
          have hcz78_10 : wr.cell? ⟨gb183, 10, none⟩ = some (.int .i64 x184010_2) := (blk_cell BK183.out 10).trans rfl
          have hcz78_11 : wr.cell? ⟨gb183, 11, none⟩ = some (.int .i64 x184011_2) := (blk_cell BK183.out 11).trans rfl
          have hcz78_12 : wr.cell? ⟨gb183, 12, none⟩ = some (.int .i64 x184012_2) := (blk_cell BK183.out 12).trans rfl
          have hfz78_0 := blk_frozen BK183.out 0
          have hfz78_1 := blk_frozen BK183.out 1
          have hfz78_2 := blk_frozen BK183.out 2
          have hfz78_3 := blk_frozen BK183.out 3
          have hfz78_4 := blk_frozen BK183.out 4
          have hfz78_5 := blk_frozen BK183.out 5
          have hfz78_6 := blk_frozen BK183.out 6
          have hfz78_7 := blk_frozen BK183.out 7
          have hfz78_8 := blk_frozen BK183.out 8
          have hfz78_9 := blk_frozen BK183.out 9
          have hfz78_10 := blk_frozen BK183.out 10
          have hfz78_11 := blk_frozen BK183.out 11
          have hfz78_12 := blk_frozen BK183.out 12
          go_wp2_with (first | ((with_reducible refine gate_store (t := 39) (p := 4) rfl ?_); refine store_all13 (t := 39) (p := 4) (v := ?vo_w79) gb183 (.int .i64 (wrap64 (16 + x16_2))) (.string (⟨#[]⟩ : ByteArray)) (.string (⟨#[]⟩ : ByteArray)) (.bool false) (.string (⟨#[]⟩ : ByteArray)) (.string (⟨#[]⟩ : ByteArray)) (.bool false) (.bool false) (.int .i64 0) (.int .i64 0) (.int .i64 0) (.int .i64 0) (.int .i64 0) ?hg ?ho ?hn (by (with_reducible repeat (first | refine blk_drewN ?_ _ | refine blk_drew ?_ | refine blk_alloc ?_ _)); exact BK183.out) ?hx ?hy ?hi ?h1 ?_; (case ho => rfl); (case hg => rfl); (case hn => rfl); (case hx => first | rfl | (go_simp; done) | (go_simp; rfl)); (case hy => first | with_reducible rfl | (go_simp; done) | (go_simp; rfl)); (case hi => kernel_rfl); (case h1 => rfl); intro w79 hw; have n0_ : Aside0 (w79.heap[gb183]? = some (.cells #[.int .i64 (wrap64 (16 + x16_2)), .string (⟨#[]⟩ : ByteArray), .string (⟨#[]⟩ : ByteArray), .bool false, .string (⟨#[]⟩ : ByteArray), .string (⟨#[]⟩ : ByteArray), .bool false, .bool false, .int .i64 0, .int .i64 0, .int .i64 0, .int .i64 0, .int .i64 0] 39 (0, 0))) := ⟨(by rw [hw]; exact (putall13 (by (with_reducible repeat (first | refine blk_drewN ?_ _ | refine blk_drew ?_ | refine blk_alloc ?_ _)); exact BK183.out) (.int .i64 (wrap64 (16 + x16_2))) (.string (⟨#[]⟩ : ByteArray)) (.string (⟨#[]⟩ : ByteArray)) (.bool false) (.string (⟨#[]⟩ : ByteArray)) (.string (⟨#[]⟩ : ByteArray)) (.bool false) (.bool false) (.int .i64 0) (.int .i64 0) (.int .i64 0) (.int .i64 0) (.int .i64 0)))⟩; have n1_ : Aside0 (Below w.heap.size w w79) := ⟨(by rw [hw]; exact (belall13 (by repeat (first | (with_reducible first | exact HB.out | apply below_alloc | apply pw_below_drewN | apply below_drew1) | exact HB.out)) GE183.out (.int .i64 (wrap64 (16 + x16_2))) (.string (⟨#[]⟩ : ByteArray)) (.string (⟨#[]⟩ : ByteArray)) (.bool false) (.string (⟨#[]⟩ : ByteArray)) (.string (⟨#[]⟩ : ByteArray)) (.bool false) (.bool false) (.int .i64 0) (.int .i64 0) (.int .i64 0) (.int .i64 0) (.int .i64 0)))⟩; clear hw; clear BK183; clear HB; have BK183 := n0_; have HB := n1_; clear n0_ n1_))
          refine bodyPost_ret (results_ct rfl _ _ gb183 39 #[.int .i64 (wrap64 (16 + x16_2)), .string (⟨#[]⟩ : ByteArray), .string (⟨#[]⟩ : ByteArray), .bool false, .string (⟨#[]⟩ : ByteArray), .string (⟨#[]⟩ : ByteArray), .bool false, .bool false, .int .i64 0, .int .i64 0, .int .i64 0, .int .i64 0, .int .i64 0] (0, 0) _ rfl (by (with_reducible repeat (first | refine blk_drewN ?_ _ | refine blk_drew ?_ | refine blk_alloc ?_ _)); exact BK183.out) Tryd.underlying39 rfl (by kernel_rfl)) rfl ?_
          exact ⟨by first | rfl | (simp [errW_none, errW_some] <;> rfl) | (simp [*, errW_none, errW_some] <;> rfl), by repeat (first | (with_reducible first | exact HB.out | apply below_alloc | apply pw_below_drewN | apply below_drew1 | refine below_set ?_ GE183.out) | exact HB.out)⟩
         ·rw [if_neg c77] at H
          have c77b0 : ((wrap64 (bt (⟨#[58, 59, 44, 123, 125, 40, 41, 91, 93]⟩ : ByteArray) x16_2)) == ((rd_T55 l0 a1).f0)) = false := beq_eq_false_iff_ne.mpr c77
          have c77b1 : ((wrap64 (bt (⟨#[58, 59, 44, 123, 125, 40, 41, 91, 93]⟩ : ByteArray) x16_2)) != ((rd_T55 l0 a1).f0)) = true := bne_iff_ne.mpr c77
          have H' := Aside0.mk H
          clear H
          have p76 : 0 ≤ (x16_2 : Int) := of_decide_eq_true (by first | (with_reducible assumption) | assumption)
          have q76 : x16_2 < (9 : Int) := of_decide_eq_true (by first | (with_reducible assumption) | assumption)
          have hx76 := bt_at (⟨#[58, 59, 44, 123, 125, 40, 41, 91, 93]⟩ : ByteArray) x16_2
          replace p76 := eq_true p76
          replace q76 := eq_true q76
          go_wp2
          go_roundg k2
          case measure => have := HJ4.out; have := HK2.out; omega
          case rel => exact ⟨(wrap64 (x16_2 + 1)), (x184000_2), (x184001_2), (x184002_2), (x184003_2), (x184004_2), (x184005_2), (x184006_2), (x184007_2), (x184008_2), (x184009_2), (x184010_2), (x184011_2), (x184012_2), (by first | rfl | (simp; done) | (simp [bne_nil_]; done) | (simp [*]; done) | (simp [wrap64]; done) | (refine congrArg (Value.int .i64) ?_; unfold wrap64; omega)), H', ⟨by have := HJ4.out; have := HK2.out; omega⟩, ⟨by (with_reducible repeat (first | refine blk_drewN ?_ _ | refine blk_drew ?_ | refine blk_alloc ?_ _)); exact BK183.out⟩, ⟨by repeat (first | (with_reducible first | exact HB.out | apply below_alloc | apply pw_below_drewN | apply below_drew1 | refine below_set ?_ GE183.out) | exact HB.out)⟩⟩
        ·rw [if_neg c75] at H
         exact absurd H (by simp)
       ·rw [if_neg c74] at H
        exact absurd H (by simp)
  ·rw [if_neg c4] at H
   exact absurd H (by simp)
 ·rw [if_neg c3] at H
  exact absurd H (by simp)
end Go.Proofs.YthonpnaccjajcaaDoor.P
