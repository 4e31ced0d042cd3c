-- printed by xprint.py (a program of this session's, over the kit's print); Lean checks it
import Derived.Test.YthonpnaccjajcaaDoorColourBackPx0
import Derived.Test.YthonpnaccjajcaaDoorColourBackPx1
import Derived.Test.YthonpnaccjajcaaDoorColourBackPx4
import Derived.Test.YthonpnaccjajcaaDoorColourBackPx19
import Derived.Test.YthonpnaccjajcaaDoorColourBackPx22
import Derived.Test.YthonpnaccjajcaaDoorColourBackExtColR
import Derived.Test.YthonpnaccjajcaaDoorColourBackExtColS
namespace Go.Proofs.YthonpnaccjajcaaDoor.P
open Go.RowKit Go.Proofs.YthonpnaccjajcaaDoorW.PrintWords Go.Proofs.YthonpnaccjajcaaDoorW.PrintLast Go.Proofs.YthonpnaccjajcaaDoorW.PrintMore Go.Proofs.YthonpnaccjajcaaDoorX
attribute [local go_sem] max2_int min2_int max_two min_two max_three min_three max_four min_four   -- for this text's walks alone
set_option linter.unusedVariables false
set_option linter.unusedSimpArgs false
attribute [local go_sem high] eqA26
mutual
def l19_ColourBack.l0 : Nat → Bool → Int → Int → Int → Int → Int → Option (Bool)
 | 0, _, _, _, _, _, _ => none
 | k + 1, x3, x4, x265000, x265001, x265002, x265003 => if x4 < 4 then (if x4 = 0 then (if x265000 < 0 then (if x3 = true then ((colour_Spell.f x265000 x265001 x265002 x265003).bind fun t266 => (some ((t266.length : Int) == 0))) else (some false)) else (if x265000 > 255 then (if x3 = true then ((colour_Spell.f x265000 x265001 x265002 x265003).bind fun t269 => (some ((t269.length : Int) == 0))) else (some false)) else (l19_ColourBack.l0 k x3 (wrap64 (x4 + 1)) x265000 x265001 x265002 x265003))) else (if x4 = 1 then (if x265001 < 0 then (if x3 = true then ((colour_Spell.f x265000 x265001 x265002 x265003).bind fun t272 => (some ((t272.length : Int) == 0))) else (some false)) else (if x265001 > 255 then (if x3 = true then ((colour_Spell.f x265000 x265001 x265002 x265003).bind fun t275 => (some ((t275.length : Int) == 0))) else (some false)) else (l19_ColourBack.l0 k x3 (wrap64 (x4 + 1)) x265000 x265001 x265002 x265003))) else (if x4 = 2 then (if x265002 < 0 then (if x3 = true then ((colour_Spell.f x265000 x265001 x265002 x265003).bind fun t278 => (some ((t278.length : Int) == 0))) else (some false)) else (if x265002 > 255 then (if x3 = true then ((colour_Spell.f x265000 x265001 x265002 x265003).bind fun t281 => (some ((t281.length : Int) == 0))) else (some false)) else (l19_ColourBack.l0 k x3 (wrap64 (x4 + 1)) x265000 x265001 x265002 x265003))) else (if x4 = 3 then (if x265003 < 0 then (if x3 = true then ((colour_Spell.f x265000 x265001 x265002 x265003).bind fun t284 => (some ((t284.length : Int) == 0))) else (some false)) else (if x265003 > 255 then (if x3 = true then ((colour_Spell.f x265000 x265001 x265002 x265003).bind fun t287 => (some ((t287.length : Int) == 0))) else (some false)) else (l19_ColourBack.l0 k x3 (wrap64 (x4 + 1)) x265000 x265001 x265002 x265003))) else (none))))) else ((colour_Spell.f x265000 x265001 x265002 x265003).bind fun t290 => (if x3 = true then (l19_ColourBack.j1 k t290 ((t290.length : Int) == 0) x265000 x265001 x265002 x265003) else (l19_ColourBack.j1 k t290 true x265000 x265001 x265002 x265003)))
def l19_ColourBack.j1 : Nat → List ByteArray → Bool → Int → Int → Int → Int → Option (Bool)
 | 0, _, _, _, _, _, _ => none
 | k + 1, x5, x40, x265000, x265001, x265002, x265003 => if x40 = true then (some false) else (l19_ColourBack.l1 k x5 0 x265000 x265001 x265002 x265003)
def l19_ColourBack.l1 : Nat → List ByteArray → Int → Int → Int → Int → Int → Option (Bool)
 | 0, _, _, _, _, _, _ => none
 | k + 1, x5, x6, x265000, x265001, x265002, x265003 => if x6 < (x5.length : Int) then (if 0 ≤ x6 then (if (rdOf ByteArray.empty x5 x6).size ≤ 9223372036854775807 then ((r13_Runes.f k (bytesOf (rdOf ByteArray.empty x5 x6))).bind fun t297 => ((r13_Clex.f k t297).bind fun t300 => (if (t300.length : Int) = 1 then (if 0 < (t300.length : Int) then ((colour_Read.f ((rd_T39 t300 0).f0) ((rd_T39 t300 0).f1) ((rd_T39 t300 0).f2) ((rd_T39 t300 0).f3.f0) ((rd_T39 t300 0).f3.f1) ((rd_T39 t300 0).f3.f2) ((rd_T39 t300 0).f4) ((rd_T39 t300 0).f5) ((rd_T39 t300 0).f6.f0) ((rd_T39 t300 0).f6.f1) ((rd_T39 t300 0).f6.f2) ((rd_T39 t300 0).f6.f3) ((rd_T39 t300 0).f7)).bind fun bt304 => (if bt304.2.2.2.2 = true then (if (!(bt304.1 == x265000) || (!(bt304.2.1 == x265001) || (!(bt304.2.2.1 == x265002) || (!(bt304.2.2.2.1 == x265003))))) = true then (some false) else (l19_ColourBack.l1 k x5 (wrap64 (x6 + 1)) x265000 x265001 x265002 x265003)) else (some false))) else (none)) else (some false)))) else (none)) else (none)) else (some true)
end
def l19_ColourBack.f (k : Nat) (a0_0 : Int) (a0_1 : Int) (a0_2 : Int) (a0_3 : Int) : Option (Bool) := (l19_alive.f k).bind fun t265 => (l19_ColourBack.l0 k t265 0 a0_0 a0_1 a0_2 a0_3)
set_option maxHeartbeats 8000000 in
set_option maxRecDepth 100000 in
theorem l19_ColourBack.calls (k : Nat) (a0_0 : Int) (a0_1 : Int) (a0_2 : Int) (a0_3 : Int) (r : Bool) (w : World) (hL : LaidW w) (hr_ : Aside0 (r = true)) (h : l19_ColourBack.f k a0_0 a0_1 a0_2 a0_3 = some r) :
  Calls Tryd.prog 4 #[.agg #[.int .i64 a0_0, .int .i64 a0_1, .int .i64 a0_2, .int .i64 a0_3]] w fun e w' => e = .returned (.bool r) ∧ Below w.heap.size w w' := by
 have hu26 := Tryd.underlying26
 have hu39 := Tryd.underlying39
 have HB := Aside0.mk (Below.refl w.heap.size w)
 have H : ((l19_alive.f k).bind fun t265 => (l19_ColourBack.l0 k t265 0 a0_0 a0_1 a0_2 a0_3)) = some r := h
 clear h
 replace H := Option.bind_eq_some_iff.mp H
 obtain ⟨t265, A20, H⟩ := H
 replace H : (l19_ColourBack.l0 k t265 0 a0_0 a0_1 a0_2 a0_3) = some r := H
 have A2 := Aside0.mk A20
 clear A20
 have H' := Aside0.mk H
 clear H
 go_enter Tryd.func4, Tryd.ntmps4
 go_wp2_with (first | ((with_reducible refine gate_dst (N := 1) rfl ?_); (try (refine gate_guard (by rfl) ?_; dsimp only)); refine box_event ?hg (N := 1) ?hd (cs := #[.int .i64 a0_0, .int .i64 a0_1, .int .i64 a0_2, .int .i64 a0_3]) (t := 26) ?hr ?_; (case hd => rfl); (case hg => rfl); (case hr => first | (go_simp; done) | (go_simp; rfl)); intro gb264 hg w3 hbox hb; have n0_ := Aside0.mk (below_step (by repeat (first | (with_reducible first | exact HB.out | apply below_alloc | apply pw_below_drewN | apply below_drew1) | exact HB.out)) hb); have n1_ := Aside0.mk (hbox); have n2_ := Aside0.mk ((by rw [hg]; exact (below_size (by repeat (first | (with_reducible first | exact HB.out | apply below_alloc | apply pw_below_drewN | apply below_drew1) | exact HB.out))) : w.heap.size ≤ gb264)); have n3_ := Aside0.mk ((by rw [hg]; exact (below_size (by repeat (first | (with_reducible first | exact HB.out | apply below_alloc | apply pw_below_drewN | apply below_drew1) | exact HB.out))) : w.heap.size ≤ gb264)); clear HB; have HB := n0_; have BK264 := n1_; have GW264 := n2_; have GE264 := n3_; clear n0_ n1_ n2_ n3_; clear hb hbox hg) | ((with_reducible refine gate_callee (f := 8) rfl ?_); refine goesL_ (some 10) rfl rfl Tryd.func8 (by kernel_rfl) rfl #[] rfl (by (try simp only [List.map_toArray, List.map_cons, List.map_nil]); first | done | rfl | (simp only [List.length_drop, List.length_take]; rfl)) ?_; (with_reducible refine (l19_alive.calls k  t265 _ ?side1 A2.out).mono ?_); (case side1 => first | exact hL | exact LaidW.below hL (by repeat (first | (with_reducible first | exact HB.out | apply below_alloc | apply pw_below_drewN | apply below_drew1 | refine below_set ?_ GE264.out) | exact HB.out)) | (repeat (first | exact hL | apply LaidW.drewN | apply LaidW.drew))); rintro e w4 ⟨rfl, hb⟩; refine ⟨_, rfl, ?_⟩; have n0_ := Aside0.mk (blk_below (g := gb264) (o := .cells #[.int .i64 a0_0, .int .i64 a0_1, .int .i64 a0_2, .int .i64 a0_3] 26 (0, 0)) (by (with_reducible repeat (first | refine blk_drewN ?_ _ | refine blk_drew ?_ | refine blk_alloc ?_ _)); exact BK264.out) hb); have n1_ := Aside0.mk (below_step (by repeat (first | (with_reducible first | exact HB.out | apply below_alloc | apply pw_below_drewN | apply below_drew1 | refine below_set ?_ GE264.out) | exact HB.out)) hb); clear BK264; clear HB; have BK264 := n0_; have HB := n1_; clear n0_ n1_; (try clear hb); (try clear hb2); (try clear hk); (try clear hi)))
 go_loopg [4] k (fun kq v4 w' => ∃ (x4_1 : Int), v4 = .int .i64 x4_1 ∧ Aside0 (l19_ColourBack.l0 kq t265 x4_1 a0_0 a0_1 a0_2 a0_3 = some r) ∧ Aside0 (kq ≤ k) ∧ Aside0 (w'.heap[gb264]? = some (.cells #[.int .i64 a0_0, .int .i64 a0_1, .int .i64 a0_2, .int .i64 a0_3] 26 (0, 0))) ∧ Aside0 (Below w.heap.size w w'))
 case atStart => exact ⟨(0), (by first | rfl | (simp; done) | (simp [bne_nil_]; done) | (simp [*]; done) | (simp [wrap64]; done) | (refine congrArg (Value.int .i64) ?_; unfold wrap64; omega)), H', ⟨Nat.le_refl _⟩, ⟨by (with_reducible repeat (first | refine blk_drewN ?_ _ | refine blk_drew ?_ | refine blk_alloc ?_ _)); exact BK264.out⟩, ⟨by repeat (first | (with_reducible first | exact HB.out | apply below_alloc | apply pw_below_drewN | apply below_drew1 | refine below_set ?_ GE264.out) | exact HB.out)⟩⟩
 case round =>
  clear H'
  try clear p2
  try clear c4
  obtain ⟨x4_1, rfl, HA, HK1, BK264, HB⟩ := hrel
  cases gk with
  | zero => exact absurd HA.out (by simp [l19_ColourBack.l0])
  | succ k1 =>
   have H := HA.out
   clear HA
   simp only [l19_ColourBack.l0] at H
   by_cases c5 : x4_1 < 4
   ·rw [if_pos c5] at H
    have c5b0 : decide (x4_1 < 4) = true := decide_eq_true c5
    clear c5
    by_cases c6 : x4_1 = 0
    ·subst c6
     have H1 : (if a0_0 < 0 then (if t265 = true then ((colour_Spell.f a0_0 a0_1 a0_2 a0_3).bind fun t266 => (some ((t266.length : Int) == 0))) else (some false)) else (if a0_0 > 255 then (if t265 = true then ((colour_Spell.f a0_0 a0_1 a0_2 a0_3).bind fun t269 => (some ((t269.length : Int) == 0))) else (some false)) else (l19_ColourBack.l0 k1 t265 (wrap64 (0 + 1)) a0_0 a0_1 a0_2 a0_3))) = some r := by rw [if_pos rfl] at H; exact H
     clear H
     have H := H1
     clear H1
     by_cases c7 : a0_0 < 0
     ·rw [if_pos c7] at H
      have c7b0 : decide (a0_0 < 0) = true := decide_eq_true c7
      clear c7
      by_cases c8 : t265 = true
      ·subst c8
       have H1 : ((colour_Spell.f a0_0 a0_1 a0_2 a0_3).bind fun t266 => (some ((t266.length : Int) == 0))) = some r := by rw [if_pos rfl] at H; exact H
       clear H
       have H := H1
       clear H1
       replace H := Option.bind_eq_some_iff.mp H
       obtain ⟨t266, A90, H⟩ := H
       replace H : (some ((t266.length : Int) == 0)) = some r := H
       have A9 := Aside0.mk A90
       clear A90
       obtain rfl := Option.some.inj H
       have hcz10_0 : wr.cell? ⟨gb264, 0, none⟩ = some (.int .i64 a0_0) := (blk_cell BK264.out 0).trans rfl
       have hcz10_1 : wr.cell? ⟨gb264, 1, none⟩ = some (.int .i64 a0_1) := (blk_cell BK264.out 1).trans rfl
       have hcz10_2 : wr.cell? ⟨gb264, 2, none⟩ = some (.int .i64 a0_2) := (blk_cell BK264.out 2).trans rfl
       have hcz10_3 : wr.cell? ⟨gb264, 3, none⟩ = some (.int .i64 a0_3) := (blk_cell BK264.out 3).trans rfl
       have hfz10_0 := blk_frozen BK264.out 0
       have hfz10_1 := blk_frozen BK264.out 1
       have hfz10_2 := blk_frozen BK264.out 2
       have hfz10_3 := blk_frozen BK264.out 3
       go_wp2_with (first | (go_at_call 11; (with_reducible refine (colour_Spell.calls a0_0 a0_1 a0_2 a0_3 t266 _ ?side1 A9.out).mono ?_); (case side1 => first | exact hL | exact LaidW.below hL (by repeat (first | (with_reducible first | exact HB.out | apply below_alloc | apply pw_below_drewN | apply below_drew1 | refine below_set ?_ GE264.out) | exact HB.out)) | (repeat (first | exact hL | apply LaidW.drewN | apply LaidW.drew))); rintro e w11 ⟨v267, rfl, ho0, hb⟩; have n0_ := Aside0.mk (Kd.R_lower ho0 (below_size (by repeat (first | (with_reducible first | exact HB.out | apply below_alloc | apply pw_below_drewN | apply below_drew1 | refine below_set ?_ GE264.out) | exact HB.out)))); have n1_ := Aside0.mk (blk_below (g := gb264) (o := .cells #[.int .i64 a0_0, .int .i64 a0_1, .int .i64 a0_2, .int .i64 a0_3] 26 (0, 0)) (by (with_reducible repeat (first | refine blk_drewN ?_ _ | refine blk_drew ?_ | refine blk_alloc ?_ _)); exact BK264.out) hb); have n2_ := Aside0.mk (below_step (by repeat (first | (with_reducible first | exact HB.out | apply below_alloc | apply pw_below_drewN | apply below_drew1 | refine below_set ?_ GE264.out) | exact HB.out)) hb); clear BK264; clear HB; have HO268 := n0_; have BK264 := n1_; have HB := n2_; clear n0_ n1_ n2_; (try clear hb); (try clear hb2); (try clear hk); (try clear hi); (try clear ho0); obtain ⟨Ao12, co12, eo12⟩ := Kd.R_slice HO268.out; subst eo12))
       go_ret
       exact ⟨by first | rfl | (simp [errW_none, errW_some] <;> rfl) | (simp [*, errW_none, errW_some] <;> rfl), by repeat (first | (with_reducible first | exact HB.out | apply below_alloc | apply pw_below_drewN | apply below_drew1 | refine below_set ?_ GE264.out) | exact HB.out)⟩
      ·replace c8 := Bool.eq_false_iff.mpr c8
       subst c8
       have H1 : (some false) = some r := by rw [if_neg (show ¬ (false = true) by decide)] at H; exact H
       clear H
       have H := H1
       clear H1
       exact absurd ((Option.some.inj H).trans hr_.out) (by decide)
     ·rw [if_neg c7] at H
      have c7b0 : decide (a0_0 < 0) = false := decide_eq_false c7
      clear c7
      by_cases c13 : a0_0 > 255
      ·rw [if_pos c13] at H
       have c13b0 : decide (255 < a0_0) = true := decide_eq_true c13
       clear c13
       by_cases c14 : t265 = true
       ·subst c14
        have H1 : ((colour_Spell.f a0_0 a0_1 a0_2 a0_3).bind fun t269 => (some ((t269.length : Int) == 0))) = some r := by rw [if_pos rfl] at H; exact H
        clear H
        have H := H1
        clear H1
        replace H := Option.bind_eq_some_iff.mp H
        obtain ⟨t269, A150, H⟩ := H
        replace H : (some ((t269.length : Int) == 0)) = some r := H
        have A15 := Aside0.mk A150
        clear A150
        obtain rfl := Option.some.inj H
        have hcz16_0 : wr.cell? ⟨gb264, 0, none⟩ = some (.int .i64 a0_0) := (blk_cell BK264.out 0).trans rfl
        have hcz16_1 : wr.cell? ⟨gb264, 1, none⟩ = some (.int .i64 a0_1) := (blk_cell BK264.out 1).trans rfl
        have hcz16_2 : wr.cell? ⟨gb264, 2, none⟩ = some (.int .i64 a0_2) := (blk_cell BK264.out 2).trans rfl
        have hcz16_3 : wr.cell? ⟨gb264, 3, none⟩ = some (.int .i64 a0_3) := (blk_cell BK264.out 3).trans rfl
        have hfz16_0 := blk_frozen BK264.out 0
        have hfz16_1 := blk_frozen BK264.out 1
        have hfz16_2 := blk_frozen BK264.out 2
        have hfz16_3 := blk_frozen BK264.out 3
        go_wp2_with (first | (go_at_call 11; (with_reducible refine (colour_Spell.calls a0_0 a0_1 a0_2 a0_3 t269 _ ?side1 A15.out).mono ?_); (case side1 => first | exact hL | exact LaidW.below hL (by repeat (first | (with_reducible first | exact HB.out | apply below_alloc | apply pw_below_drewN | apply below_drew1 | refine below_set ?_ GE264.out) | exact HB.out)) | (repeat (first | exact hL | apply LaidW.drewN | apply LaidW.drew))); rintro e w17 ⟨v270, rfl, ho0, hb⟩; have n0_ := Aside0.mk (Kd.R_lower ho0 (below_size (by repeat (first | (with_reducible first | exact HB.out | apply below_alloc | apply pw_below_drewN | apply below_drew1 | refine below_set ?_ GE264.out) | exact HB.out)))); have n1_ := Aside0.mk (blk_below (g := gb264) (o := .cells #[.int .i64 a0_0, .int .i64 a0_1, .int .i64 a0_2, .int .i64 a0_3] 26 (0, 0)) (by (with_reducible repeat (first | refine blk_drewN ?_ _ | refine blk_drew ?_ | refine blk_alloc ?_ _)); exact BK264.out) hb); have n2_ := Aside0.mk (below_step (by repeat (first | (with_reducible first | exact HB.out | apply below_alloc | apply pw_below_drewN | apply below_drew1 | refine below_set ?_ GE264.out) | exact HB.out)) hb); clear BK264; clear HB; have HO271 := n0_; have BK264 := n1_; have HB := n2_; clear n0_ n1_ n2_; (try clear hb); (try clear hb2); (try clear hk); (try clear hi); (try clear ho0); obtain ⟨Ao18, co18, eo18⟩ := Kd.R_slice HO271.out; subst eo18))
        go_ret
        exact ⟨by first | rfl | (simp [errW_none, errW_some] <;> rfl) | (simp [*, errW_none, errW_some] <;> rfl), by repeat (first | (with_reducible first | exact HB.out | apply below_alloc | apply pw_below_drewN | apply below_drew1 | refine below_set ?_ GE264.out) | exact HB.out)⟩
       ·replace c14 := Bool.eq_false_iff.mpr c14
        subst c14
        have H1 : (some false) = some r := by rw [if_neg (show ¬ (false = true) by decide)] at H; exact H
        clear H
        have H := H1
        clear H1
        exact absurd ((Option.some.inj H).trans hr_.out) (by decide)
      ·rw [if_neg c13] at H
       have c13b0 : decide (255 < a0_0) = false := decide_eq_false c13
       clear c13
       have H' := Aside0.mk H
       clear H
       have hcz19_0 : wr.cell? ⟨gb264, 0, none⟩ = some (.int .i64 a0_0) := (blk_cell BK264.out 0).trans rfl
       have hcz19_1 : wr.cell? ⟨gb264, 1, none⟩ = some (.int .i64 a0_1) := (blk_cell BK264.out 1).trans rfl
       have hcz19_2 : wr.cell? ⟨gb264, 2, none⟩ = some (.int .i64 a0_2) := (blk_cell BK264.out 2).trans rfl
       have hcz19_3 : wr.cell? ⟨gb264, 3, none⟩ = some (.int .i64 a0_3) := (blk_cell BK264.out 3).trans rfl
       have hfz19_0 := blk_frozen BK264.out 0
       have hfz19_1 := blk_frozen BK264.out 1
       have hfz19_2 := blk_frozen BK264.out 2
       have hfz19_3 := blk_frozen BK264.out 3
       go_wp2
       go_roundg k1
       case measure => have := HK1.out; omega
       case rel => exact ⟨(wrap64 (0 + 1)), (by first | rfl | (simp; done) | (simp [bne_nil_]; done) | (simp [*]; done) | (simp [wrap64]; done) | (refine congrArg (Value.int .i64) ?_; unfold wrap64; omega)), H', ⟨by have := HK1.out; omega⟩, ⟨by (with_reducible repeat (first | refine blk_drewN ?_ _ | refine blk_drew ?_ | refine blk_alloc ?_ _)); exact BK264.out⟩, ⟨by repeat (first | (with_reducible first | exact HB.out | apply below_alloc | apply pw_below_drewN | apply below_drew1 | refine below_set ?_ GE264.out) | exact HB.out)⟩⟩
    ·rw [if_neg c6] at H
     clear c6
     by_cases c20 : x4_1 = 1
     ·subst c20
      have H1 : (if a0_1 < 0 then (if t265 = true then ((colour_Spell.f a0_0 a0_1 a0_2 a0_3).bind fun t272 => (some ((t272.length : Int) == 0))) else (some false)) else (if a0_1 > 255 then (if t265 = true then ((colour_Spell.f a0_0 a0_1 a0_2 a0_3).bind fun t275 => (some ((t275.length : Int) == 0))) else (some false)) else (l19_ColourBack.l0 k1 t265 (wrap64 (1 + 1)) a0_0 a0_1 a0_2 a0_3))) = some r := by rw [if_pos rfl] at H; exact H
      clear H
      have H := H1
      clear H1
      by_cases c21 : a0_1 < 0
      ·rw [if_pos c21] at H
       have c21b0 : decide (a0_1 < 0) = true := decide_eq_true c21
       clear c21
       by_cases c22 : t265 = true
       ·subst c22
        have H1 : ((colour_Spell.f a0_0 a0_1 a0_2 a0_3).bind fun t272 => (some ((t272.length : Int) == 0))) = some r := by rw [if_pos rfl] at H; exact H
        clear H
        have H := H1
        clear H1
        replace H := Option.bind_eq_some_iff.mp H
        obtain ⟨t272, A230, H⟩ := H
        replace H : (some ((t272.length : Int) == 0)) = some r := H
        have A23 := Aside0.mk A230
        clear A230
        obtain rfl := Option.some.inj H
        have hcz24_0 : wr.cell? ⟨gb264, 0, none⟩ = some (.int .i64 a0_0) := (blk_cell BK264.out 0).trans rfl
        have hcz24_1 : wr.cell? ⟨gb264, 1, none⟩ = some (.int .i64 a0_1) := (blk_cell BK264.out 1).trans rfl
        have hcz24_2 : wr.cell? ⟨gb264, 2, none⟩ = some (.int .i64 a0_2) := (blk_cell BK264.out 2).trans rfl
        have hcz24_3 : wr.cell? ⟨gb264, 3, none⟩ = some (.int .i64 a0_3) := (blk_cell BK264.out 3).trans rfl
        have hfz24_0 := blk_frozen BK264.out 0
        have hfz24_1 := blk_frozen BK264.out 1
        have hfz24_2 := blk_frozen BK264.out 2
        have hfz24_3 := blk_frozen BK264.out 3
        go_wp2_with (first | (go_at_call 11; (with_reducible refine (colour_Spell.calls a0_0 a0_1 a0_2 a0_3 t272 _ ?side1 A23.out).mono ?_); (case side1 => first | exact hL | exact LaidW.below hL (by repeat (first | (with_reducible first | exact HB.out | apply below_alloc | apply pw_below_drewN | apply below_drew1 | refine below_set ?_ GE264.out) | exact HB.out)) | (repeat (first | exact hL | apply LaidW.drewN | apply LaidW.drew))); rintro e w25 ⟨v273, rfl, ho0, hb⟩; have n0_ := Aside0.mk (Kd.R_lower ho0 (below_size (by repeat (first | (with_reducible first | exact HB.out | apply below_alloc | apply pw_below_drewN | apply below_drew1 | refine below_set ?_ GE264.out) | exact HB.out)))); have n1_ := Aside0.mk (blk_below (g := gb264) (o := .cells #[.int .i64 a0_0, .int .i64 a0_1, .int .i64 a0_2, .int .i64 a0_3] 26 (0, 0)) (by (with_reducible repeat (first | refine blk_drewN ?_ _ | refine blk_drew ?_ | refine blk_alloc ?_ _)); exact BK264.out) hb); have n2_ := Aside0.mk (below_step (by repeat (first | (with_reducible first | exact HB.out | apply below_alloc | apply pw_below_drewN | apply below_drew1 | refine below_set ?_ GE264.out) | exact HB.out)) hb); clear BK264; clear HB; have HO274 := n0_; have BK264 := n1_; have HB := n2_; clear n0_ n1_ n2_; (try clear hb); (try clear hb2); (try clear hk); (try clear hi); (try clear ho0); obtain ⟨Ao26, co26, eo26⟩ := Kd.R_slice HO274.out; subst eo26))
        go_ret
        exact ⟨by first | rfl | (simp [errW_none, errW_some] <;> rfl) | (simp [*, errW_none, errW_some] <;> rfl), by repeat (first | (with_reducible first | exact HB.out | apply below_alloc | apply pw_below_drewN | apply below_drew1 | refine below_set ?_ GE264.out) | exact HB.out)⟩
       ·replace c22 := Bool.eq_false_iff.mpr c22
        subst c22
        have H1 : (some false) = some r := by rw [if_neg (show ¬ (false = true) by decide)] at H; exact H
        clear H
        have H := H1
        clear H1
        exact absurd ((Option.some.inj H).trans hr_.out) (by decide)
      ·rw [if_neg c21] at H
       have c21b0 : decide (a0_1 < 0) = false := decide_eq_false c21
       clear c21
       by_cases c27 : a0_1 > 255
       ·rw [if_pos c27] at H
        have c27b0 : decide (255 < a0_1) = true := decide_eq_true c27
        clear c27
        by_cases c28 : t265 = true
        ·subst c28
         have H1 : ((colour_Spell.f a0_0 a0_1 a0_2 a0_3).bind fun t275 => (some ((t275.length : Int) == 0))) = some r := by rw [if_pos rfl] at H; exact H
         clear H
         have H := H1
         clear H1
         replace H := Option.bind_eq_some_iff.mp H
         obtain ⟨t275, A290, H⟩ := H
         replace H : (some ((t275.length : Int) == 0)) = some r := H
         have A29 := Aside0.mk A290
         clear A290
         obtain rfl := Option.some.inj H
         have hcz30_0 : wr.cell? ⟨gb264, 0, none⟩ = some (.int .i64 a0_0) := (blk_cell BK264.out 0).trans rfl
         have hcz30_1 : wr.cell? ⟨gb264, 1, none⟩ = some (.int .i64 a0_1) := (blk_cell BK264.out 1).trans rfl
         have hcz30_2 : wr.cell? ⟨gb264, 2, none⟩ = some (.int .i64 a0_2) := (blk_cell BK264.out 2).trans rfl
         have hcz30_3 : wr.cell? ⟨gb264, 3, none⟩ = some (.int .i64 a0_3) := (blk_cell BK264.out 3).trans rfl
         have hfz30_0 := blk_frozen BK264.out 0
         have hfz30_1 := blk_frozen BK264.out 1
         have hfz30_2 := blk_frozen BK264.out 2
         have hfz30_3 := blk_frozen BK264.out 3
         go_wp2_with (first | (go_at_call 11; (with_reducible refine (colour_Spell.calls a0_0 a0_1 a0_2 a0_3 t275 _ ?side1 A29.out).mono ?_); (case side1 => first | exact hL | exact LaidW.below hL (by repeat (first | (with_reducible first | exact HB.out | apply below_alloc | apply pw_below_drewN | apply below_drew1 | refine below_set ?_ GE264.out) | exact HB.out)) | (repeat (first | exact hL | apply LaidW.drewN | apply LaidW.drew))); rintro e w31 ⟨v276, rfl, ho0, hb⟩; have n0_ := Aside0.mk (Kd.R_lower ho0 (below_size (by repeat (first | (with_reducible first | exact HB.out | apply below_alloc | apply pw_below_drewN | apply below_drew1 | refine below_set ?_ GE264.out) | exact HB.out)))); have n1_ := Aside0.mk (blk_below (g := gb264) (o := .cells #[.int .i64 a0_0, .int .i64 a0_1, .int .i64 a0_2, .int .i64 a0_3] 26 (0, 0)) (by (with_reducible repeat (first | refine blk_drewN ?_ _ | refine blk_drew ?_ | refine blk_alloc ?_ _)); exact BK264.out) hb); have n2_ := Aside0.mk (below_step (by repeat (first | (with_reducible first | exact HB.out | apply below_alloc | apply pw_below_drewN | apply below_drew1 | refine below_set ?_ GE264.out) | exact HB.out)) hb); clear BK264; clear HB; have HO277 := n0_; have BK264 := n1_; have HB := n2_; clear n0_ n1_ n2_; (try clear hb); (try clear hb2); (try clear hk); (try clear hi); (try clear ho0); obtain ⟨Ao32, co32, eo32⟩ := Kd.R_slice HO277.out; subst eo32))
         go_ret
         exact ⟨by first | rfl | (simp [errW_none, errW_some] <;> rfl) | (simp [*, errW_none, errW_some] <;> rfl), by repeat (first | (with_reducible first | exact HB.out | apply below_alloc | apply pw_below_drewN | apply below_drew1 | refine below_set ?_ GE264.out) | exact HB.out)⟩
        ·replace c28 := Bool.eq_false_iff.mpr c28
         subst c28
         have H1 : (some false) = some r := by rw [if_neg (show ¬ (false = true) by decide)] at H; exact H
         clear H
         have H := H1
         clear H1
         exact absurd ((Option.some.inj H).trans hr_.out) (by decide)
       ·rw [if_neg c27] at H
        have c27b0 : decide (255 < a0_1) = false := decide_eq_false c27
        clear c27
        have H' := Aside0.mk H
        clear H
        have hcz33_0 : wr.cell? ⟨gb264, 0, none⟩ = some (.int .i64 a0_0) := (blk_cell BK264.out 0).trans rfl
        have hcz33_1 : wr.cell? ⟨gb264, 1, none⟩ = some (.int .i64 a0_1) := (blk_cell BK264.out 1).trans rfl
        have hcz33_2 : wr.cell? ⟨gb264, 2, none⟩ = some (.int .i64 a0_2) := (blk_cell BK264.out 2).trans rfl
        have hcz33_3 : wr.cell? ⟨gb264, 3, none⟩ = some (.int .i64 a0_3) := (blk_cell BK264.out 3).trans rfl
        have hfz33_0 := blk_frozen BK264.out 0
        have hfz33_1 := blk_frozen BK264.out 1
        have hfz33_2 := blk_frozen BK264.out 2
        have hfz33_3 := blk_frozen BK264.out 3
        go_wp2
        go_roundg k1
        case measure => have := HK1.out; omega
        case rel => exact ⟨(wrap64 (1 + 1)), (by first | rfl | (simp; done) | (simp [bne_nil_]; done) | (simp [*]; done) | (simp [wrap64]; done) | (refine congrArg (Value.int .i64) ?_; unfold wrap64; omega)), H', ⟨by have := HK1.out; omega⟩, ⟨by (with_reducible repeat (first | refine blk_drewN ?_ _ | refine blk_drew ?_ | refine blk_alloc ?_ _)); exact BK264.out⟩, ⟨by repeat (first | (with_reducible first | exact HB.out | apply below_alloc | apply pw_below_drewN | apply below_drew1 | refine below_set ?_ GE264.out) | exact HB.out)⟩⟩
     ·rw [if_neg c20] at H
      clear c20
      by_cases c34 : x4_1 = 2
      ·subst c34
       have H1 : (if a0_2 < 0 then (if t265 = true then ((colour_Spell.f a0_0 a0_1 a0_2 a0_3).bind fun t278 => (some ((t278.length : Int) == 0))) else (some false)) else (if a0_2 > 255 then (if t265 = true then ((colour_Spell.f a0_0 a0_1 a0_2 a0_3).bind fun t281 => (some ((t281.length : Int) == 0))) else (some false)) else (l19_ColourBack.l0 k1 t265 (wrap64 (2 + 1)) a0_0 a0_1 a0_2 a0_3))) = some r := by rw [if_pos rfl] at H; exact H
       clear H
       have H := H1
       clear H1
       by_cases c35 : a0_2 < 0
       ·rw [if_pos c35] at H
        have c35b0 : decide (a0_2 < 0) = true := decide_eq_true c35
        clear c35
        by_cases c36 : t265 = true
        ·subst c36
         have H1 : ((colour_Spell.f a0_0 a0_1 a0_2 a0_3).bind fun t278 => (some ((t278.length : Int) == 0))) = some r := by rw [if_pos rfl] at H; exact H
         clear H
         have H := H1
         clear H1
         replace H := Option.bind_eq_some_iff.mp H
         obtain ⟨t278, A370, H⟩ := H
         replace H : (some ((t278.length : Int) == 0)) = some r := H
         have A37 := Aside0.mk A370
         clear A370
         obtain rfl := Option.some.inj H
         have hcz38_0 : wr.cell? ⟨gb264, 0, none⟩ = some (.int .i64 a0_0) := (blk_cell BK264.out 0).trans rfl
         have hcz38_1 : wr.cell? ⟨gb264, 1, none⟩ = some (.int .i64 a0_1) := (blk_cell BK264.out 1).trans rfl
         have hcz38_2 : wr.cell? ⟨gb264, 2, none⟩ = some (.int .i64 a0_2) := (blk_cell BK264.out 2).trans rfl
         have hcz38_3 : wr.cell? ⟨gb264, 3, none⟩ = some (.int .i64 a0_3) := (blk_cell BK264.out 3).trans rfl
         have hfz38_0 := blk_frozen BK264.out 0
         have hfz38_1 := blk_frozen BK264.out 1
         have hfz38_2 := blk_frozen BK264.out 2
         have hfz38_3 := blk_frozen BK264.out 3
         go_wp2_with (first | (go_at_call 11; (with_reducible refine (colour_Spell.calls a0_0 a0_1 a0_2 a0_3 t278 _ ?side1 A37.out).mono ?_); (case side1 => first | exact hL | exact LaidW.below hL (by repeat (first | (with_reducible first | exact HB.out | apply below_alloc | apply pw_below_drewN | apply below_drew1 | refine below_set ?_ GE264.out) | exact HB.out)) | (repeat (first | exact hL | apply LaidW.drewN | apply LaidW.drew))); rintro e w39 ⟨v279, rfl, ho0, hb⟩; have n0_ := Aside0.mk (Kd.R_lower ho0 (below_size (by repeat (first | (with_reducible first | exact HB.out | apply below_alloc | apply pw_below_drewN | apply below_drew1 | refine below_set ?_ GE264.out) | exact HB.out)))); have n1_ := Aside0.mk (blk_below (g := gb264) (o := .cells #[.int .i64 a0_0, .int .i64 a0_1, .int .i64 a0_2, .int .i64 a0_3] 26 (0, 0)) (by (with_reducible repeat (first | refine blk_drewN ?_ _ | refine blk_drew ?_ | refine blk_alloc ?_ _)); exact BK264.out) hb); have n2_ := Aside0.mk (below_step (by repeat (first | (with_reducible first | exact HB.out | apply below_alloc | apply pw_below_drewN | apply below_drew1 | refine below_set ?_ GE264.out) | exact HB.out)) hb); clear BK264; clear HB; have HO280 := n0_; have BK264 := n1_; have HB := n2_; clear n0_ n1_ n2_; (try clear hb); (try clear hb2); (try clear hk); (try clear hi); (try clear ho0); obtain ⟨Ao40, co40, eo40⟩ := Kd.R_slice HO280.out; subst eo40))
         go_ret
         exact ⟨by first | rfl | (simp [errW_none, errW_some] <;> rfl) | (simp [*, errW_none, errW_some] <;> rfl), by repeat (first | (with_reducible first | exact HB.out | apply below_alloc | apply pw_below_drewN | apply below_drew1 | refine below_set ?_ GE264.out) | exact HB.out)⟩
        ·replace c36 := Bool.eq_false_iff.mpr c36
         subst c36
         have H1 : (some false) = some r := by rw [if_neg (show ¬ (false = true) by decide)] at H; exact H
         clear H
         have H := H1
         clear H1
         exact absurd ((Option.some.inj H).trans hr_.out) (by decide)
       ·rw [if_neg c35] at H
        have c35b0 : decide (a0_2 < 0) = false := decide_eq_false c35
        clear c35
        by_cases c41 : a0_2 > 255
        ·rw [if_pos c41] at H
         have c41b0 : decide (255 < a0_2) = true := decide_eq_true c41
         clear c41
         by_cases c42 : t265 = true
         ·subst c42
          have H1 : ((colour_Spell.f a0_0 a0_1 a0_2 a0_3).bind fun t281 => (some ((t281.length : Int) == 0))) = some r := by rw [if_pos rfl] at H; exact H
          clear H
          have H := H1
          clear H1
          replace H := Option.bind_eq_some_iff.mp H
          obtain ⟨t281, A430, H⟩ := H
          replace H : (some ((t281.length : Int) == 0)) = some r := H
          have A43 := Aside0.mk A430
          clear A430
          obtain rfl := Option.some.inj H
          have hcz44_0 : wr.cell? ⟨gb264, 0, none⟩ = some (.int .i64 a0_0) := (blk_cell BK264.out 0).trans rfl
          have hcz44_1 : wr.cell? ⟨gb264, 1, none⟩ = some (.int .i64 a0_1) := (blk_cell BK264.out 1).trans rfl
          have hcz44_2 : wr.cell? ⟨gb264, 2, none⟩ = some (.int .i64 a0_2) := (blk_cell BK264.out 2).trans rfl
          have hcz44_3 : wr.cell? ⟨gb264, 3, none⟩ = some (.int .i64 a0_3) := (blk_cell BK264.out 3).trans rfl
          have hfz44_0 := blk_frozen BK264.out 0
          have hfz44_1 := blk_frozen BK264.out 1
          have hfz44_2 := blk_frozen BK264.out 2
          have hfz44_3 := blk_frozen BK264.out 3
          go_wp2_with (first | (go_at_call 11; (with_reducible refine (colour_Spell.calls a0_0 a0_1 a0_2 a0_3 t281 _ ?side1 A43.out).mono ?_); (case side1 => first | exact hL | exact LaidW.below hL (by repeat (first | (with_reducible first | exact HB.out | apply below_alloc | apply pw_below_drewN | apply below_drew1 | refine below_set ?_ GE264.out) | exact HB.out)) | (repeat (first | exact hL | apply LaidW.drewN | apply LaidW.drew))); rintro e w45 ⟨v282, rfl, ho0, hb⟩; have n0_ := Aside0.mk (Kd.R_lower ho0 (below_size (by repeat (first | (with_reducible first | exact HB.out | apply below_alloc | apply pw_below_drewN | apply below_drew1 | refine below_set ?_ GE264.out) | exact HB.out)))); have n1_ := Aside0.mk (blk_below (g := gb264) (o := .cells #[.int .i64 a0_0, .int .i64 a0_1, .int .i64 a0_2, .int .i64 a0_3] 26 (0, 0)) (by (with_reducible repeat (first | refine blk_drewN ?_ _ | refine blk_drew ?_ | refine blk_alloc ?_ _)); exact BK264.out) hb); have n2_ := Aside0.mk (below_step (by repeat (first | (with_reducible first | exact HB.out | apply below_alloc | apply pw_below_drewN | apply below_drew1 | refine below_set ?_ GE264.out) | exact HB.out)) hb); clear BK264; clear HB; have HO283 := n0_; have BK264 := n1_; have HB := n2_; clear n0_ n1_ n2_; (try clear hb); (try clear hb2); (try clear hk); (try clear hi); (try clear ho0); obtain ⟨Ao46, co46, eo46⟩ := Kd.R_slice HO283.out; subst eo46))
          go_ret
          exact ⟨by first | rfl | (simp [errW_none, errW_some] <;> rfl) | (simp [*, errW_none, errW_some] <;> rfl), by repeat (first | (with_reducible first | exact HB.out | apply below_alloc | apply pw_below_drewN | apply below_drew1 | refine below_set ?_ GE264.out) | exact HB.out)⟩
         ·replace c42 := Bool.eq_false_iff.mpr c42
          subst c42
          have H1 : (some false) = some r := by rw [if_neg (show ¬ (false = true) by decide)] at H; exact H
          clear H
          have H := H1
          clear H1
          exact absurd ((Option.some.inj H).trans hr_.out) (by decide)
        ·rw [if_neg c41] at H
         have c41b0 : decide (255 < a0_2) = false := decide_eq_false c41
         clear c41
         have H' := Aside0.mk H
         clear H
         have hcz47_0 : wr.cell? ⟨gb264, 0, none⟩ = some (.int .i64 a0_0) := (blk_cell BK264.out 0).trans rfl
         have hcz47_1 : wr.cell? ⟨gb264, 1, none⟩ = some (.int .i64 a0_1) := (blk_cell BK264.out 1).trans rfl
         have hcz47_2 : wr.cell? ⟨gb264, 2, none⟩ = some (.int .i64 a0_2) := (blk_cell BK264.out 2).trans rfl
         have hcz47_3 : wr.cell? ⟨gb264, 3, none⟩ = some (.int .i64 a0_3) := (blk_cell BK264.out 3).trans rfl
         have hfz47_0 := blk_frozen BK264.out 0
         have hfz47_1 := blk_frozen BK264.out 1
         have hfz47_2 := blk_frozen BK264.out 2
         have hfz47_3 := blk_frozen BK264.out 3
         go_wp2
         go_roundg k1
         case measure => have := HK1.out; omega
         case rel => exact ⟨(wrap64 (2 + 1)), (by first | rfl | (simp; done) | (simp [bne_nil_]; done) | (simp [*]; done) | (simp [wrap64]; done) | (refine congrArg (Value.int .i64) ?_; unfold wrap64; omega)), H', ⟨by have := HK1.out; omega⟩, ⟨by (with_reducible repeat (first | refine blk_drewN ?_ _ | refine blk_drew ?_ | refine blk_alloc ?_ _)); exact BK264.out⟩, ⟨by repeat (first | (with_reducible first | exact HB.out | apply below_alloc | apply pw_below_drewN | apply below_drew1 | refine below_set ?_ GE264.out) | exact HB.out)⟩⟩
      ·rw [if_neg c34] at H
       clear c34
       by_cases c48 : x4_1 = 3
       ·subst c48
        have H1 : (if a0_3 < 0 then (if t265 = true then ((colour_Spell.f a0_0 a0_1 a0_2 a0_3).bind fun t284 => (some ((t284.length : Int) == 0))) else (some false)) else (if a0_3 > 255 then (if t265 = true then ((colour_Spell.f a0_0 a0_1 a0_2 a0_3).bind fun t287 => (some ((t287.length : Int) == 0))) else (some false)) else (l19_ColourBack.l0 k1 t265 (wrap64 (3 + 1)) a0_0 a0_1 a0_2 a0_3))) = some r := by rw [if_pos rfl] at H; exact H
        clear H
        have H := H1
        clear H1
        by_cases c49 : a0_3 < 0
        ·rw [if_pos c49] at H
         have c49b0 : decide (a0_3 < 0) = true := decide_eq_true c49
         clear c49
         by_cases c50 : t265 = true
         ·subst c50
          have H1 : ((colour_Spell.f a0_0 a0_1 a0_2 a0_3).bind fun t284 => (some ((t284.length : Int) == 0))) = some r := by rw [if_pos rfl] at H; exact H
          clear H
          have H := H1
          clear H1
          replace H := Option.bind_eq_some_iff.mp H
          obtain ⟨t284, A510, H⟩ := H
          replace H : (some ((t284.length : Int) == 0)) = some r := H
          have A51 := Aside0.mk A510
          clear A510
          obtain rfl := Option.some.inj H
          have hcz52_0 : wr.cell? ⟨gb264, 0, none⟩ = some (.int .i64 a0_0) := (blk_cell BK264.out 0).trans rfl
          have hcz52_1 : wr.cell? ⟨gb264, 1, none⟩ = some (.int .i64 a0_1) := (blk_cell BK264.out 1).trans rfl
          have hcz52_2 : wr.cell? ⟨gb264, 2, none⟩ = some (.int .i64 a0_2) := (blk_cell BK264.out 2).trans rfl
          have hcz52_3 : wr.cell? ⟨gb264, 3, none⟩ = some (.int .i64 a0_3) := (blk_cell BK264.out 3).trans rfl
          have hfz52_0 := blk_frozen BK264.out 0
          have hfz52_1 := blk_frozen BK264.out 1
          have hfz52_2 := blk_frozen BK264.out 2
          have hfz52_3 := blk_frozen BK264.out 3
          go_wp2_with (first | (go_at_call 11; (with_reducible refine (colour_Spell.calls a0_0 a0_1 a0_2 a0_3 t284 _ ?side1 A51.out).mono ?_); (case side1 => first | exact hL | exact LaidW.below hL (by repeat (first | (with_reducible first | exact HB.out | apply below_alloc | apply pw_below_drewN | apply below_drew1 | refine below_set ?_ GE264.out) | exact HB.out)) | (repeat (first | exact hL | apply LaidW.drewN | apply LaidW.drew))); rintro e w53 ⟨v285, rfl, ho0, hb⟩; have n0_ := Aside0.mk (Kd.R_lower ho0 (below_size (by repeat (first | (with_reducible first | exact HB.out | apply below_alloc | apply pw_below_drewN | apply below_drew1 | refine below_set ?_ GE264.out) | exact HB.out)))); have n1_ := Aside0.mk (blk_below (g := gb264) (o := .cells #[.int .i64 a0_0, .int .i64 a0_1, .int .i64 a0_2, .int .i64 a0_3] 26 (0, 0)) (by (with_reducible repeat (first | refine blk_drewN ?_ _ | refine blk_drew ?_ | refine blk_alloc ?_ _)); exact BK264.out) hb); have n2_ := Aside0.mk (below_step (by repeat (first | (with_reducible first | exact HB.out | apply below_alloc | apply pw_below_drewN | apply below_drew1 | refine below_set ?_ GE264.out) | exact HB.out)) hb); clear BK264; clear HB; have HO286 := n0_; have BK264 := n1_; have HB := n2_; clear n0_ n1_ n2_; (try clear hb); (try clear hb2); (try clear hk); (try clear hi); (try clear ho0); obtain ⟨Ao54, co54, eo54⟩ := Kd.R_slice HO286.out; subst eo54))
          go_ret
          exact ⟨by first | rfl | (simp [errW_none, errW_some] <;> rfl) | (simp [*, errW_none, errW_some] <;> rfl), by repeat (first | (with_reducible first | exact HB.out | apply below_alloc | apply pw_below_drewN | apply below_drew1 | refine below_set ?_ GE264.out) | exact HB.out)⟩
         ·replace c50 := Bool.eq_false_iff.mpr c50
          subst c50
          have H1 : (some false) = some r := by rw [if_neg (show ¬ (false = true) by decide)] at H; exact H
          clear H
          have H := H1
          clear H1
          exact absurd ((Option.some.inj H).trans hr_.out) (by decide)
        ·rw [if_neg c49] at H
         have c49b0 : decide (a0_3 < 0) = false := decide_eq_false c49
         clear c49
         by_cases c55 : a0_3 > 255
         ·rw [if_pos c55] at H
          have c55b0 : decide (255 < a0_3) = true := decide_eq_true c55
          clear c55
          by_cases c56 : t265 = true
          ·subst c56
           have H1 : ((colour_Spell.f a0_0 a0_1 a0_2 a0_3).bind fun t287 => (some ((t287.length : Int) == 0))) = some r := by rw [if_pos rfl] at H; exact H
           clear H
           have H := H1
           clear H1
           replace H := Option.bind_eq_some_iff.mp H
           obtain ⟨t287, A570, H⟩ := H
           replace H : (some ((t287.length : Int) == 0)) = some r := H
           have A57 := Aside0.mk A570
           clear A570
           obtain rfl := Option.some.inj H
           have hcz58_0 : wr.cell? ⟨gb264, 0, none⟩ = some (.int .i64 a0_0) := (blk_cell BK264.out 0).trans rfl
           have hcz58_1 : wr.cell? ⟨gb264, 1, none⟩ = some (.int .i64 a0_1) := (blk_cell BK264.out 1).trans rfl
           have hcz58_2 : wr.cell? ⟨gb264, 2, none⟩ = some (.int .i64 a0_2) := (blk_cell BK264.out 2).trans rfl
           have hcz58_3 : wr.cell? ⟨gb264, 3, none⟩ = some (.int .i64 a0_3) := (blk_cell BK264.out 3).trans rfl
           have hfz58_0 := blk_frozen BK264.out 0
           have hfz58_1 := blk_frozen BK264.out 1
           have hfz58_2 := blk_frozen BK264.out 2
           have hfz58_3 := blk_frozen BK264.out 3
           go_wp2_with (first | (go_at_call 11; (with_reducible refine (colour_Spell.calls a0_0 a0_1 a0_2 a0_3 t287 _ ?side1 A57.out).mono ?_); (case side1 => first | exact hL | exact LaidW.below hL (by repeat (first | (with_reducible first | exact HB.out | apply below_alloc | apply pw_below_drewN | apply below_drew1 | refine below_set ?_ GE264.out) | exact HB.out)) | (repeat (first | exact hL | apply LaidW.drewN | apply LaidW.drew))); rintro e w59 ⟨v288, rfl, ho0, hb⟩; have n0_ := Aside0.mk (Kd.R_lower ho0 (below_size (by repeat (first | (with_reducible first | exact HB.out | apply below_alloc | apply pw_below_drewN | apply below_drew1 | refine below_set ?_ GE264.out) | exact HB.out)))); have n1_ := Aside0.mk (blk_below (g := gb264) (o := .cells #[.int .i64 a0_0, .int .i64 a0_1, .int .i64 a0_2, .int .i64 a0_3] 26 (0, 0)) (by (with_reducible repeat (first | refine blk_drewN ?_ _ | refine blk_drew ?_ | refine blk_alloc ?_ _)); exact BK264.out) hb); have n2_ := Aside0.mk (below_step (by repeat (first | (with_reducible first | exact HB.out | apply below_alloc | apply pw_below_drewN | apply below_drew1 | refine below_set ?_ GE264.out) | exact HB.out)) hb); clear BK264; clear HB; have HO289 := n0_; have BK264 := n1_; have HB := n2_; clear n0_ n1_ n2_; (try clear hb); (try clear hb2); (try clear hk); (try clear hi); (try clear ho0); obtain ⟨Ao60, co60, eo60⟩ := Kd.R_slice HO289.out; subst eo60))
           go_ret
           exact ⟨by first | rfl | (simp [errW_none, errW_some] <;> rfl) | (simp [*, errW_none, errW_some] <;> rfl), by repeat (first | (with_reducible first | exact HB.out | apply below_alloc | apply pw_below_drewN | apply below_drew1 | refine below_set ?_ GE264.out) | exact HB.out)⟩
          ·replace c56 := Bool.eq_false_iff.mpr c56
           subst c56
           have H1 : (some false) = some r := by rw [if_neg (show ¬ (false = true) by decide)] at H; exact H
           clear H
           have H := H1
           clear H1
           exact absurd ((Option.some.inj H).trans hr_.out) (by decide)
         ·rw [if_neg c55] at H
          have c55b0 : decide (255 < a0_3) = false := decide_eq_false c55
          clear c55
          have H' := Aside0.mk H
          clear H
          have hcz61_0 : wr.cell? ⟨gb264, 0, none⟩ = some (.int .i64 a0_0) := (blk_cell BK264.out 0).trans rfl
          have hcz61_1 : wr.cell? ⟨gb264, 1, none⟩ = some (.int .i64 a0_1) := (blk_cell BK264.out 1).trans rfl
          have hcz61_2 : wr.cell? ⟨gb264, 2, none⟩ = some (.int .i64 a0_2) := (blk_cell BK264.out 2).trans rfl
          have hcz61_3 : wr.cell? ⟨gb264, 3, none⟩ = some (.int .i64 a0_3) := (blk_cell BK264.out 3).trans rfl
          have hfz61_0 := blk_frozen BK264.out 0
          have hfz61_1 := blk_frozen BK264.out 1
          have hfz61_2 := blk_frozen BK264.out 2
          have hfz61_3 := blk_frozen BK264.out 3
          go_wp2
          go_roundg k1
          case measure => have := HK1.out; omega
          case rel => exact ⟨(wrap64 (3 + 1)), (by first | rfl | (simp; done) | (simp [bne_nil_]; done) | (simp [*]; done) | (simp [wrap64]; done) | (refine congrArg (Value.int .i64) ?_; unfold wrap64; omega)), H', ⟨by have := HK1.out; omega⟩, ⟨by (with_reducible repeat (first | refine blk_drewN ?_ _ | refine blk_drew ?_ | refine blk_alloc ?_ _)); exact BK264.out⟩, ⟨by repeat (first | (with_reducible first | exact HB.out | apply below_alloc | apply pw_below_drewN | apply below_drew1 | refine below_set ?_ GE264.out) | exact HB.out)⟩⟩
       ·rw [if_neg c48] at H
        clear c48
        exact absurd H (by simp)
   ·rw [if_neg c5] at H
    have c5b0 : decide (x4_1 < 4) = false := decide_eq_false c5
    clear c5
    replace H := Option.bind_eq_some_iff.mp H
    obtain ⟨t290, A620, H⟩ := H
    replace H : (if t265 = true then (l19_ColourBack.j1 k1 t290 ((t290.length : Int) == 0) a0_0 a0_1 a0_2 a0_3) else (l19_ColourBack.j1 k1 t290 true a0_0 a0_1 a0_2 a0_3)) = some r := H
    have A62 := Aside0.mk A620
    clear A620
    have HC63 := Aside0.mk H
    clear H
    have hcz64_0 : wr.cell? ⟨gb264, 0, none⟩ = some (.int .i64 a0_0) := (blk_cell BK264.out 0).trans rfl
    have hcz64_1 : wr.cell? ⟨gb264, 1, none⟩ = some (.int .i64 a0_1) := (blk_cell BK264.out 1).trans rfl
    have hcz64_2 : wr.cell? ⟨gb264, 2, none⟩ = some (.int .i64 a0_2) := (blk_cell BK264.out 2).trans rfl
    have hcz64_3 : wr.cell? ⟨gb264, 3, none⟩ = some (.int .i64 a0_3) := (blk_cell BK264.out 3).trans rfl
    have hfz64_0 := blk_frozen BK264.out 0
    have hfz64_1 := blk_frozen BK264.out 1
    have hfz64_2 := blk_frozen BK264.out 2
    have hfz64_3 := blk_frozen BK264.out 3
    go_upto_region 8 with (first | ((with_reducible refine gate_callee (f := 11) rfl ?_); refine goesL_ (some 33) rfl rfl Tryd.func11 (by kernel_rfl) rfl #[.agg #[.int .i64 a0_0, .int .i64 a0_1, .int .i64 a0_2, .int .i64 a0_3]] rfl (by (try simp only [List.map_toArray, List.map_cons, List.map_nil]); first | done | rfl | (simp only [List.length_drop, List.length_take]; rfl)) ?_; (with_reducible refine (colour_Spell.calls a0_0 a0_1 a0_2 a0_3 t290 _ ?side1 A62.out).mono ?_); (case side1 => first | exact hL | exact LaidW.below hL (by repeat (first | (with_reducible first | exact HB.out | apply below_alloc | apply pw_below_drewN | apply below_drew1 | refine below_set ?_ GE264.out) | exact HB.out)) | (repeat (first | exact hL | apply LaidW.drewN | apply LaidW.drew))); rintro e w65 ⟨v291, rfl, ho0, hb⟩; refine ⟨_, rfl, ?_⟩; have n0_ := Aside0.mk (Kd.R_lower ho0 (below_size (by repeat (first | (with_reducible first | exact HB.out | apply below_alloc | apply pw_below_drewN | apply below_drew1 | refine below_set ?_ GE264.out) | exact HB.out)))); have n1_ := Aside0.mk (blk_below (g := gb264) (o := .cells #[.int .i64 a0_0, .int .i64 a0_1, .int .i64 a0_2, .int .i64 a0_3] 26 (0, 0)) (by (with_reducible repeat (first | refine blk_drewN ?_ _ | refine blk_drew ?_ | refine blk_alloc ?_ _)); exact BK264.out) hb); have n2_ := Aside0.mk (below_step (by repeat (first | (with_reducible first | exact HB.out | apply below_alloc | apply pw_below_drewN | apply below_drew1 | refine below_set ?_ GE264.out) | exact HB.out)) hb); clear BK264; clear HB; have HO292 := n0_; have BK264 := n1_; have HB := n2_; clear n0_ n1_ n2_; (try clear hb); (try clear hb2); (try clear hk); (try clear hi); (try clear ho0)))
    (try simp only [Act.put, List.setIfInBounds_toArray, List.set_cons_zero, List.set_cons_succ])
    go_cut [40] (fun v40 wc => ∃ (kq : Nat) (x40_62 : Bool), v40 = .bool x40_62 ∧ Aside0 (l19_ColourBack.j1 kq t290 x40_62 a0_0 a0_1 a0_2 a0_3 = some r) ∧ Aside0 (kq ≤ k1) ∧ Aside0 (Kd.R Kd.string 9 wc w.heap.size (fun _ => True) v291 t290) ∧ Aside0 (wc.heap[gb264]? = some (.cells #[.int .i64 a0_0, .int .i64 a0_1, .int .i64 a0_2, .int .i64 a0_3] 26 (0, 0))) ∧ Aside0 (Below w.heap.size w wc))
    case first =>
     have H := HC63.out
     clear HC63
     by_cases c66 : t265 = true
     ·subst c66
      have H1 : (l19_ColourBack.j1 k1 t290 ((t290.length : Int) == 0) a0_0 a0_1 a0_2 a0_3) = some r := by rw [if_pos rfl] at H; exact H
      clear H
      have H := H1
      clear H1
      have H' := Aside0.mk H
      clear H
      obtain ⟨Ao67, co67, eo67⟩ := Kd.R_slice HO292.out
      subst eo67
      go_wp2
      go_meet
      case rel => exact ⟨_, (((t290.length : Int) == 0)), (by first | rfl | (simp; done) | (simp [bne_nil_]; done) | (simp [*]; done) | (simp [wrap64]; done) | (refine congrArg (Value.int .i64) ?_; unfold wrap64; omega)), H', ⟨by have := HK1.out; first | omega | exact Nat.le_refl _⟩, ⟨by (with_reducible repeat (first | apply Kd.R_alloc | apply Kd.R_drewN | apply Kd.R_drew)); exact HO292.out⟩, ⟨by (with_reducible repeat (first | refine blk_drewN ?_ _ | refine blk_drew ?_ | refine blk_alloc ?_ _)); exact BK264.out⟩, ⟨by repeat (first | (with_reducible first | exact HB.out | apply below_alloc | apply pw_below_drewN | apply below_drew1 | refine below_set ?_ GE264.out) | exact HB.out)⟩⟩
     ·replace c66 := Bool.eq_false_iff.mpr c66
      subst c66
      have H1 : (l19_ColourBack.j1 k1 t290 true a0_0 a0_1 a0_2 a0_3) = some r := by rw [if_neg (show ¬ (false = true) by decide)] at H; exact H
      clear H
      have H := H1
      clear H1
      have H' := Aside0.mk H
      clear H
      go_wp2
      go_meet
      case rel => exact ⟨_, (true), (by first | rfl | (simp; done) | (simp [bne_nil_]; done) | (simp [*]; done) | (simp [wrap64]; done) | (refine congrArg (Value.int .i64) ?_; unfold wrap64; omega)), H', ⟨by have := HK1.out; first | omega | exact Nat.le_refl _⟩, ⟨by (with_reducible repeat (first | apply Kd.R_alloc | apply Kd.R_drewN | apply Kd.R_drew)); exact HO292.out⟩, ⟨by (with_reducible repeat (first | refine blk_drewN ?_ _ | refine blk_drew ?_ | refine blk_alloc ?_ _)); exact BK264.out⟩, ⟨by repeat (first | (with_reducible first | exact HB.out | apply below_alloc | apply pw_below_drewN | apply below_drew1 | refine below_set ?_ GE264.out) | exact HB.out)⟩⟩
    case rest =>
     clear HC63
     try clear c1
     try clear c2
     try clear p2
     try clear c3
     try clear c4
     try clear c5
     try clear c5b0
     try clear c6
     try clear p6
     try clear c7
     try clear c7b0
     try clear c8
     try clear c11
     try clear c13
     try clear c13b0
     try clear c14
     try clear c20
     try clear c21
     try clear c21b0
     try clear c22
     try clear c27
     try clear c27b0
     try clear c28
     try clear c34
     try clear c35
     try clear c35b0
     try clear c36
     try clear c41
     try clear c41b0
     try clear c42
     try clear c48
     try clear c49
     try clear c49b0
     try clear c50
     try clear c55
     try clear c55b0
     try clear c56
     try clear p64
     try clear c66
     try clear hcz10_0
     try clear hcz10_1
     try clear hcz10_2
     try clear hcz10_3
     try clear hcz16_0
     try clear hcz16_1
     try clear hcz16_2
     try clear hcz16_3
     try clear hcz19_0
     try clear hcz19_1
     try clear hcz19_2
     try clear hcz19_3
     try clear hcz24_0
     try clear hcz24_1
     try clear hcz24_2
     try clear hcz24_3
     try clear hcz30_0
     try clear hcz30_1
     try clear hcz30_2
     try clear hcz30_3
     try clear hcz33_0
     try clear hcz33_1
     try clear hcz33_2
     try clear hcz33_3
     try clear hcz38_0
     try clear hcz38_1
     try clear hcz38_2
     try clear hcz38_3
     try clear hcz44_0
     try clear hcz44_1
     try clear hcz44_2
     try clear hcz44_3
     try clear hcz47_0
     try clear hcz47_1
     try clear hcz47_2
     try clear hcz47_3
     try clear hcz52_0
     try clear hcz52_1
     try clear hcz52_2
     try clear hcz52_3
     try clear hcz58_0
     try clear hcz58_1
     try clear hcz58_2
     try clear hcz58_3
     try clear hcz61_0
     try clear hcz61_1
     try clear hcz61_2
     try clear hcz61_3
     try clear hcz64_0
     try clear hcz64_1
     try clear hcz64_2
     try clear hcz64_3
     try clear hfz10_0
     try clear hfz10_1
     try clear hfz10_2
     try clear hfz10_3
     try clear hfz16_0
     try clear hfz16_1
     try clear hfz16_2
     try clear hfz16_3
     try clear hfz19_0
     try clear hfz19_1
     try clear hfz19_2
     try clear hfz19_3
     try clear hfz24_0
     try clear hfz24_1
     try clear hfz24_2
     try clear hfz24_3
     try clear hfz30_0
     try clear hfz30_1
     try clear hfz30_2
     try clear hfz30_3
     try clear hfz33_0
     try clear hfz33_1
     try clear hfz33_2
     try clear hfz33_3
     try clear hfz38_0
     try clear hfz38_1
     try clear hfz38_2
     try clear hfz38_3
     try clear hfz44_0
     try clear hfz44_1
     try clear hfz44_2
     try clear hfz44_3
     try clear hfz47_0
     try clear hfz47_1
     try clear hfz47_2
     try clear hfz47_3
     try clear hfz52_0
     try clear hfz52_1
     try clear hfz52_2
     try clear hfz52_3
     try clear hfz58_0
     try clear hfz58_1
     try clear hfz58_2
     try clear hfz58_3
     try clear hfz61_0
     try clear hfz61_1
     try clear hfz61_2
     try clear hfz61_3
     try clear hfz64_0
     try clear hfz64_1
     try clear hfz64_2
     try clear hfz64_3
     try clear p2
     obtain ⟨kq, x40_62, rfl, HA, HJ62, HO_5, BK264, HB⟩ := hcut
     cases kq with
     | zero => exact absurd HA.out (by simp [l19_ColourBack.j1])
     | succ kj62 =>
      have H := HA.out
      clear HA
      simp only [l19_ColourBack.j1] at H
      by_cases c68 : x40_62 = true
      ·subst c68
       have H1 : (some false) = some r := by rw [if_pos rfl] at H; exact H
       clear H
       have H := H1
       clear H1
       exact absurd ((Option.some.inj H).trans hr_.out) (by decide)
      ·replace c68 := Bool.eq_false_iff.mpr c68
       subst c68
       have H1 : (l19_ColourBack.l1 kj62 t290 0 a0_0 a0_1 a0_2 a0_3) = some r := by rw [if_neg (show ¬ (false = true) by decide)] at H; exact H
       clear H
       have H := H1
       clear H1
       have H' := Aside0.mk H
       clear H
       go_wp2
       go_loopg [6] kj62 (fun kq v6 w' => ∃ (x6_3 : Int), v6 = .int .i64 x6_3 ∧ Aside0 (l19_ColourBack.l1 kq t290 x6_3 a0_0 a0_1 a0_2 a0_3 = some r) ∧ Aside0 (kq ≤ kj62) ∧ Aside0 (Kd.R Kd.string 9 w' w.heap.size (fun _ => True) v291 t290) ∧ Aside0 (w'.heap[gb264]? = some (.cells #[.int .i64 a0_0, .int .i64 a0_1, .int .i64 a0_2, .int .i64 a0_3] 26 (0, 0))) ∧ Aside0 (Below w.heap.size w w'))
       case atStart => exact ⟨(0), (by first | rfl | (simp; done) | (simp [bne_nil_]; done) | (simp [*]; done) | (simp [wrap64]; done) | (refine congrArg (Value.int .i64) ?_; unfold wrap64; omega)), H', ⟨Nat.le_refl _⟩, ⟨by (with_reducible repeat (first | apply Kd.R_alloc | apply Kd.R_drewN | apply Kd.R_drew)); exact HO_5.out⟩, ⟨by (with_reducible repeat (first | refine blk_drewN ?_ _ | refine blk_drew ?_ | refine blk_alloc ?_ _)); exact BK264.out⟩, ⟨by repeat (first | (with_reducible first | exact HB.out | apply below_alloc | apply pw_below_drewN | apply below_drew1 | refine below_set ?_ GE264.out) | exact HB.out)⟩⟩
       case round =>
        clear H'
        try clear c1
        try clear c2
        try clear p2
        try clear c3
        try clear c4
        try clear c5
        try clear c5b0
        try clear c6
        try clear p6
        try clear c7
        try clear c7b0
        try clear c8
        try clear c11
        try clear c13
        try clear c13b0
        try clear c14
        try clear c20
        try clear c21
        try clear c21b0
        try clear c22
        try clear c27
        try clear c27b0
        try clear c28
        try clear c34
        try clear c35
        try clear c35b0
        try clear c36
        try clear c41
        try clear c41b0
        try clear c42
        try clear c48
        try clear c49
        try clear c49b0
        try clear c50
        try clear c55
        try clear c55b0
        try clear c56
        try clear p64
        try clear c66
        try clear c68
        try clear hcz10_0
        try clear hcz10_1
        try clear hcz10_2
        try clear hcz10_3
        try clear hcz16_0
        try clear hcz16_1
        try clear hcz16_2
        try clear hcz16_3
        try clear hcz19_0
        try clear hcz19_1
        try clear hcz19_2
        try clear hcz19_3
        try clear hcz24_0
        try clear hcz24_1
        try clear hcz24_2
        try clear hcz24_3
        try clear hcz30_0
        try clear hcz30_1
        try clear hcz30_2
        try clear hcz30_3
        try clear hcz33_0
        try clear hcz33_1
        try clear hcz33_2
        try clear hcz33_3
        try clear hcz38_0
        try clear hcz38_1
        try clear hcz38_2
        try clear hcz38_3
        try clear hcz44_0
        try clear hcz44_1
        try clear hcz44_2
        try clear hcz44_3
        try clear hcz47_0
        try clear hcz47_1
        try clear hcz47_2
        try clear hcz47_3
        try clear hcz52_0
        try clear hcz52_1
        try clear hcz52_2
        try clear hcz52_3
        try clear hcz58_0
        try clear hcz58_1
        try clear hcz58_2
        try clear hcz58_3
        try clear hcz61_0
        try clear hcz61_1
        try clear hcz61_2
        try clear hcz61_3
        try clear hcz64_0
        try clear hcz64_1
        try clear hcz64_2
        try clear hcz64_3
        try clear hfz10_0
        try clear hfz10_1
        try clear hfz10_2
        try clear hfz10_3
        try clear hfz16_0
        try clear hfz16_1
        try clear hfz16_2
        try clear hfz16_3
        try clear hfz19_0
        try clear hfz19_1
        try clear hfz19_2
        try clear hfz19_3
        try clear hfz24_0
        try clear hfz24_1
        try clear hfz24_2
        try clear hfz24_3
        try clear hfz30_0
        try clear hfz30_1
        try clear hfz30_2
        try clear hfz30_3
        try clear hfz33_0
        try clear hfz33_1
        try clear hfz33_2
        try clear hfz33_3
        try clear hfz38_0
        try clear hfz38_1
        try clear hfz38_2
        try clear hfz38_3
        try clear hfz44_0
        try clear hfz44_1
        try clear hfz44_2
        try clear hfz44_3
        try clear hfz47_0
        try clear hfz47_1
        try clear hfz47_2
        try clear hfz47_3
        try clear hfz52_0
        try clear hfz52_1
        try clear hfz52_2
        try clear hfz52_3
        try clear hfz58_0
        try clear hfz58_1
        try clear hfz58_2
        try clear hfz58_3
        try clear hfz61_0
        try clear hfz61_1
        try clear hfz61_2
        try clear hfz61_3
        try clear hfz64_0
        try clear hfz64_1
        try clear hfz64_2
        try clear hfz64_3
        try clear p2
        try clear p6
        try clear p64
        obtain ⟨x6_3, rfl, HA, HK3, HO_5, BK264, HB⟩ := hrel
        cases gk with
        | zero => exact absurd HA.out (by simp [l19_ColourBack.l1])
        | succ k3 =>
         have H := HA.out
         clear HA
         simp only [l19_ColourBack.l1] at H
         by_cases c69 : x6_3 < (t290.length : Int)
         ·rw [if_pos c69] at H
          have c69b0 : decide (x6_3 < (t290.length : Int)) = true := decide_eq_true c69
          clear c69
          by_cases c70 : 0 ≤ x6_3
          ·rw [if_pos c70] at H
           have c70b0 : decide (0 ≤ x6_3) = true := decide_eq_true c70
           clear c70
           by_cases c71 : (rdOf ByteArray.empty t290 x6_3).size ≤ 9223372036854775807
           ·rw [if_pos c71] at H
            have c71b0 := eq_true c71
            have c71b1 : decide ((rdOf ByteArray.empty t290 x6_3).size ≤ 9223372036854775807) = true := decide_eq_true c71
            try have c71b2 : (9223372036854775807 < (rdOf ByteArray.empty t290 x6_3).size) = False := eq_false (Nat.not_lt.2 c71)
            clear c71
            obtain ⟨y294, hy294⟩ : ∃ y_ : List Int, y_ = (bytesOf (rdOf ByteArray.empty t290 x6_3)) := ⟨_, rfl⟩
            replace H : ((r13_Runes.f k3 y294).bind fun t297 => ((r13_Clex.f k3 t297).bind fun t300 => (if (t300.length : Int) = 1 then (if 0 < (t300.length : Int) then ((colour_Read.f ((rd_T39 t300 0).f0) ((rd_T39 t300 0).f1) ((rd_T39 t300 0).f2) ((rd_T39 t300 0).f3.f0) ((rd_T39 t300 0).f3.f1) ((rd_T39 t300 0).f3.f2) ((rd_T39 t300 0).f4) ((rd_T39 t300 0).f5) ((rd_T39 t300 0).f6.f0) ((rd_T39 t300 0).f6.f1) ((rd_T39 t300 0).f6.f2) ((rd_T39 t300 0).f6.f3) ((rd_T39 t300 0).f7)).bind fun bt304 => (if bt304.2.2.2.2 = true then (if (!(bt304.1 == a0_0) || (!(bt304.2.1 == a0_1) || (!(bt304.2.2.1 == a0_2) || (!(bt304.2.2.2.1 == a0_3))))) = true then (some false) else (l19_ColourBack.l1 k3 t290 (wrap64 (x6_3 + 1)) a0_0 a0_1 a0_2 a0_3)) else (some false))) else (none)) else (some false)))) = some r := by first | (rw [hy294]; with_reducible exact H) | (have H2_ := (Option.bind_some _ _).symm.trans H; rw [hy294]; with_reducible exact H2_) | (have H2_ := (Option.bind_some _ _).symm.trans H; with_reducible exact H2_) | with_reducible exact H | (rw [hy294]; exact H) | exact H
            have Ny294 := Aside0.mk hy294
            clear hy294
            replace H := Option.bind_eq_some_iff.mp H
            obtain ⟨t297, A720, H⟩ := H
            replace H : ((r13_Clex.f k3 t297).bind fun t300 => (if (t300.length : Int) = 1 then (if 0 < (t300.length : Int) then ((colour_Read.f ((rd_T39 t300 0).f0) ((rd_T39 t300 0).f1) ((rd_T39 t300 0).f2) ((rd_T39 t300 0).f3.f0) ((rd_T39 t300 0).f3.f1) ((rd_T39 t300 0).f3.f2) ((rd_T39 t300 0).f4) ((rd_T39 t300 0).f5) ((rd_T39 t300 0).f6.f0) ((rd_T39 t300 0).f6.f1) ((rd_T39 t300 0).f6.f2) ((rd_T39 t300 0).f6.f3) ((rd_T39 t300 0).f7)).bind fun bt304 => (if bt304.2.2.2.2 = true then (if (!(bt304.1 == a0_0) || (!(bt304.2.1 == a0_1) || (!(bt304.2.2.1 == a0_2) || (!(bt304.2.2.2.1 == a0_3))))) = true then (some false) else (l19_ColourBack.l1 k3 t290 (wrap64 (x6_3 + 1)) a0_0 a0_1 a0_2 a0_3)) else (some false))) else (none)) else (some false))) = some r := H
            have A72 := Aside0.mk A720
            clear A720
            replace H := Option.bind_eq_some_iff.mp H
            obtain ⟨t300, A730, H⟩ := H
            replace H : (if (t300.length : Int) = 1 then (if 0 < (t300.length : Int) then ((colour_Read.f ((rd_T39 t300 0).f0) ((rd_T39 t300 0).f1) ((rd_T39 t300 0).f2) ((rd_T39 t300 0).f3.f0) ((rd_T39 t300 0).f3.f1) ((rd_T39 t300 0).f3.f2) ((rd_T39 t300 0).f4) ((rd_T39 t300 0).f5) ((rd_T39 t300 0).f6.f0) ((rd_T39 t300 0).f6.f1) ((rd_T39 t300 0).f6.f2) ((rd_T39 t300 0).f6.f3) ((rd_T39 t300 0).f7)).bind fun bt304 => (if bt304.2.2.2.2 = true then (if (!(bt304.1 == a0_0) || (!(bt304.2.1 == a0_1) || (!(bt304.2.2.1 == a0_2) || (!(bt304.2.2.2.1 == a0_3))))) = true then (some false) else (l19_ColourBack.l1 k3 t290 (wrap64 (x6_3 + 1)) a0_0 a0_1 a0_2 a0_3)) else (some false))) else (none)) else (some false)) = some r := H
            have A73 := Aside0.mk A730
            clear A730
            by_cases c74 : (t300.length : Int) = 1
            ·rw [if_pos c74] at H
             have c74b0 : ((t300.length : Int) == 1) = true := beq_iff_eq.mpr c74
             have c74b1 : ((t300.length : Int) != 1) = false := bne_eq_false_iff_eq.mpr c74
             clear c74
             by_cases c75 : 0 < (t300.length : Int)
             ·rw [if_pos c75] at H
              have c75b0 : decide (0 < (t300.length : Int)) = true := decide_eq_true c75
              have c75b1 : decide (0 < t300.length) = true := decide_eq_true (by omega)
              clear c75
              replace H := Option.bind_eq_some_iff.mp H
              obtain ⟨⟨t304, t305, t306, t307, t308⟩, A760, H⟩ := H
              replace H : (if t308 = true then (if (!(t304 == a0_0) || (!(t305 == a0_1) || (!(t306 == a0_2) || (!(t307 == a0_3))))) = true then (some false) else (l19_ColourBack.l1 k3 t290 (wrap64 (x6_3 + 1)) a0_0 a0_1 a0_2 a0_3)) else (some false)) = some r := H
              have A76 := Aside0.mk A760
              clear A760
              by_cases c77 : t308 = true
              ·subst c77
               have H1 : (if (!(t304 == a0_0) || (!(t305 == a0_1) || (!(t306 == a0_2) || (!(t307 == a0_3))))) = true then (some false) else (l19_ColourBack.l1 k3 t290 (wrap64 (x6_3 + 1)) a0_0 a0_1 a0_2 a0_3)) = some r := by rw [if_pos rfl] at H; exact H
               clear H
               have H := H1
               clear H1
               by_cases c78 : (!(t304 == a0_0) || (!(t305 == a0_1) || (!(t306 == a0_2) || (!(t307 == a0_3))))) = true
               ·rw [if_pos c78] at H
                have c78b0 : (!(t304 == a0_0) || (!(t305 == a0_1) || (!(t306 == a0_2) || (!(t307 == a0_3))))) = true := c78
                clear c78
                exact absurd ((Option.some.inj H).trans hr_.out) (by decide)
               ·rw [if_neg c78] at H
                have c78b0 : (!(t304 == a0_0) || (!(t305 == a0_1) || (!(t306 == a0_2) || (!(t307 == a0_3))))) = false := by simpa using c78
                clear c78
                have H' := Aside0.mk H
                clear H
                obtain ⟨Ao79, co79, eo79⟩ := Kd.R_slice HO_5.out
                subst eo79
                have p293 : 0 ≤ (x6_3 : Int) := of_decide_eq_true (by first | (with_reducible assumption) | assumption)
                have q293 : x6_3 < (t290.length : Int) := of_decide_eq_true (by first | (with_reducible assumption) | assumption)
                obtain ⟨ad293, e293, hx293_0⟩ := Kd.at_string (Kd.R_reads' HO_5.out).2.2 x6_3 p293 q293
                cases e293
                replace p293 := eq_true p293
                replace q293 := eq_true q293
                go_wp2_with (first | ((with_reducible refine gate_dst (N := 51) rfl ?_); (try (refine gate_guard (by rfl) ?_; dsimp only)); refine Kd.V_bytes _ 5 rfl (N' := 51) rfl 9 25 _ rfl (rdOf ByteArray.empty t290 x6_3) (by first | rfl | (go_simp; done)) Tryd.underlying9 Tryd.underlying25 Tryd.underlying5 (by first | assumption | exact of_decide_eq_true (by assumption) | decide | omega | (simp only [ByteArray.size_append, ByteArray.size_extract] at *; omega)) (ok := fun k_ => wr.heap.size ≤ k_) (Nat.le_refl _) (Below.refl _ _) (Nat.le_refl _) ?_; intro v295 w80 ho81 hb hg_ hnew_; clear hg_ hnew_; (first | rw [← Ny294.out] at ho81 | (simp only [Int.reduceToNat] at ho81; rw [← Ny294.out] at ho81)); have n0_ := Aside0.mk (Kd.R_below (by (with_reducible repeat (first | apply Kd.R_alloc | apply Kd.R_drewN | apply Kd.R_drew)); exact HO_5.out) hb); have n1_ := Aside0.mk (Kd.V_lower (Kd.V_mono (ok' := fun k_ => some k_ ≠ (.slice (some ad293) t290.length co79 : Value).ownBlock ∧ k_ ≠ gb264) ho81 (fun k_ hk_ => ⟨(Kd.fresh' (Kd.R_lt (by (with_reducible repeat (first | apply Kd.R_alloc | apply Kd.R_drewN | apply Kd.R_drew)); exact HO_5.out)) k_ hk_), (Kd.freshB (g := gb264) (o := .cells #[.int .i64 a0_0, .int .i64 a0_1, .int .i64 a0_2, .int .i64 a0_3] 26 (0, 0)) (by (with_reducible repeat (first | refine blk_drewN ?_ _ | refine blk_drew ?_ | refine blk_alloc ?_ _)); exact BK264.out) k_ hk_)⟩)) (below_size (by repeat (first | (with_reducible first | exact HB.out | apply below_alloc | apply pw_below_drewN | apply below_drew1 | refine below_set ?_ GE264.out) | exact HB.out)))); have n2_ := Aside0.mk (blk_below (g := gb264) (o := .cells #[.int .i64 a0_0, .int .i64 a0_1, .int .i64 a0_2, .int .i64 a0_3] 26 (0, 0)) (by (with_reducible repeat (first | refine blk_drewN ?_ _ | refine blk_drew ?_ | refine blk_alloc ?_ _)); exact BK264.out) hb); have n3_ := Aside0.mk (below_step (by repeat (first | (with_reducible first | exact HB.out | apply below_alloc | apply pw_below_drewN | apply below_drew1 | refine below_set ?_ GE264.out) | exact HB.out)) hb); clear HO_5; clear BK264; clear HB; have HO_5 := n0_; have HO296 := n1_; have BK264 := n2_; have HB := n3_; clear n0_ n1_ n2_ n3_; clear hb ho81; obtain ⟨Ao82, co82, eo82⟩ := Kd.V_slice HO296.out; subst eo82) | ((with_reducible refine gate_callee (f := 13) rfl ?_); refine goesL_ (some 52) rfl rfl Tryd.func13 (by kernel_rfl) rfl #[.slice Ao82 y294.length co82] rfl (by (try simp only [List.map_toArray, List.map_cons, List.map_nil]); first | done | rfl | (simp only [List.length_drop, List.length_take]; rfl)) ?_; (with_reducible refine (r13_Runes.calls k3 _ _ y294 t297 _ ?side1 ?side2 A72.out).mono ?_); (case side1 => repeat (first | exact (Kd.V_reads' HO296.out).2.2 | (with_reducible refine Kd.C_alloc ?_ _) | (with_reducible refine Kd.C_drewN ?_ _) | (with_reducible refine Kd.C_drew ?_))); (case side2 => exact (Kd.V_reads' HO296.out).2.1); rintro e w83 ⟨v298, rfl, ho0, hb⟩; refine ⟨_, rfl, ?_⟩; have n0_ := Aside0.mk (Kd.R_below (by (with_reducible repeat (first | apply Kd.R_alloc | apply Kd.R_drewN | apply Kd.R_drew)); exact HO_5.out) hb); have n1_ := Aside0.mk (Kd.V_elder' (by (with_reducible repeat (first | apply Kd.V_alloc | apply Kd.V_drewN | apply Kd.V_drew)); exact HO296.out) (Kd.R_base ho0) hb); have n2_ := Aside0.mk (Kd.R_lower ho0 (below_size (by repeat (first | (with_reducible first | exact HB.out | apply below_alloc | apply pw_below_drewN | apply below_drew1 | refine below_set ?_ GE264.out) | exact HB.out)))); have n3_ := Aside0.mk (blk_below (g := gb264) (o := .cells #[.int .i64 a0_0, .int .i64 a0_1, .int .i64 a0_2, .int .i64 a0_3] 26 (0, 0)) (by (with_reducible repeat (first | refine blk_drewN ?_ _ | refine blk_drew ?_ | refine blk_alloc ?_ _)); exact BK264.out) hb); have n4_ := Aside0.mk (below_step (by repeat (first | (with_reducible first | exact HB.out | apply below_alloc | apply pw_below_drewN | apply below_drew1 | refine below_set ?_ GE264.out) | exact HB.out)) hb); clear HO_5; clear HO296; clear BK264; clear HB; have HO_5 := n0_; have HO296 := n1_; have HO299 := n2_; have BK264 := n3_; have HB := n4_; clear n0_ n1_ n2_ n3_ n4_; (try clear hb); (try clear hb2); (try clear hk); (try clear hi); (try clear ho0); obtain ⟨Ao84, co84, eo84⟩ := Kd.R_slice HO299.out; subst eo84) | ((with_reducible refine gate_callee (f := 12) rfl ?_); refine goesL_ (some 53) rfl rfl Tryd.func12 (by kernel_rfl) rfl #[.slice Ao84 t297.length co84] rfl (by (try simp only [List.map_toArray, List.map_cons, List.map_nil]); first | done | rfl | (simp only [List.length_drop, List.length_take]; rfl)) ?_; (with_reducible refine (r13_Clex.calls k3 _ _ t297 t300 _ ?side1 ?side2 A73.out).mono ?_); (case side1 => repeat (first | exact (Kd.R_reads' HO299.out).2.2 | (with_reducible refine Kd.C_alloc ?_ _) | (with_reducible refine Kd.C_drewN ?_ _) | (with_reducible refine Kd.C_drew ?_))); (case side2 => exact (Kd.R_reads' HO299.out).2.1); rintro e w85 ⟨v301, rfl, ho0, hb⟩; refine ⟨_, rfl, ?_⟩; have n0_ := Aside0.mk (Kd.R_below (by (with_reducible repeat (first | apply Kd.R_alloc | apply Kd.R_drewN | apply Kd.R_drew)); exact HO_5.out) hb); have n1_ := Aside0.mk (Kd.V_elder' (by (with_reducible repeat (first | apply Kd.V_alloc | apply Kd.V_drewN | apply Kd.V_drew)); exact HO296.out) (Kd.R_base ho0) hb); have n2_ := Aside0.mk (Kd.R_below (by (with_reducible repeat (first | apply Kd.R_alloc | apply Kd.R_drewN | apply Kd.R_drew)); exact HO299.out) hb); have n3_ := Aside0.mk (Kd.R_lower ho0 (below_size (by repeat (first | (with_reducible first | exact HB.out | apply below_alloc | apply pw_below_drewN | apply below_drew1 | refine below_set ?_ GE264.out) | exact HB.out)))); have n4_ := Aside0.mk (blk_below (g := gb264) (o := .cells #[.int .i64 a0_0, .int .i64 a0_1, .int .i64 a0_2, .int .i64 a0_3] 26 (0, 0)) (by (with_reducible repeat (first | refine blk_drewN ?_ _ | refine blk_drew ?_ | refine blk_alloc ?_ _)); exact BK264.out) hb); have n5_ := Aside0.mk (below_step (by repeat (first | (with_reducible first | exact HB.out | apply below_alloc | apply pw_below_drewN | apply below_drew1 | refine below_set ?_ GE264.out) | exact HB.out)) hb); clear HO_5; clear HO296; clear HO299; clear BK264; clear HB; have HO_5 := n0_; have HO296 := n1_; have HO299 := n2_; have HO302 := n3_; have BK264 := n4_; have HB := n5_; clear n0_ n1_ n2_ n3_ n4_ n5_; (try clear hb); (try clear hb2); (try clear hk); (try clear hi); (try clear ho0); obtain ⟨Ao86, co86, eo86⟩ := Kd.R_slice HO302.out; subst eo86; have p303 : 0 ≤ (0 : Int) := (by omega); have q303 : 0 < (t300.length : Int) := of_decide_eq_true (by first | (with_reducible assumption) | assumption); obtain ⟨ad303, e303, hx303_0, hx303_1, hx303_2, hx303_3, hx303_4, hx303_5, hx303_6, hx303_7, hx303_8, hx303_9, hx303_10, hx303_11, hx303_12⟩ := at_T39 (Kd.R_reads' HO302.out).2.2 0 p303 q303; cases e303; have qi303 : (0 < t300.length) = True := eq_true (by omega); (try rw [show ((0 : Int)).toNat = 0 from rfl] at hx303_0); (try rw [show 0 * 13 = 0 from rfl] at hx303_0); (try rw [Addr.add_zero'] at hx303_0); (try rw [show ((0 : Int)).toNat = 0 from rfl] at hx303_1); (try rw [show 0 * 13 = 0 from rfl] at hx303_1); (try rw [Addr.add_zero'] at hx303_1); (try rw [show ((0 : Int)).toNat = 0 from rfl] at hx303_2); (try rw [show 0 * 13 = 0 from rfl] at hx303_2); (try rw [Addr.add_zero'] at hx303_2); (try rw [show ((0 : Int)).toNat = 0 from rfl] at hx303_3); (try rw [show 0 * 13 = 0 from rfl] at hx303_3); (try rw [Addr.add_zero'] at hx303_3); (try rw [show ((0 : Int)).toNat = 0 from rfl] at hx303_4); (try rw [show 0 * 13 = 0 from rfl] at hx303_4); (try rw [Addr.add_zero'] at hx303_4); (try rw [show ((0 : Int)).toNat = 0 from rfl] at hx303_5); (try rw [show 0 * 13 = 0 from rfl] at hx303_5); (try rw [Addr.add_zero'] at hx303_5); (try rw [show ((0 : Int)).toNat = 0 from rfl] at hx303_6); (try rw [show 0 * 13 = 0 from rfl] at hx303_6); (try rw [Addr.add_zero'] at hx303_6); (try rw [show ((0 : Int)).toNat = 0 from rfl] at hx303_7); (try rw [show 0 * 13 = 0 from rfl] at hx303_7); (try rw [Addr.add_zero'] at hx303_7); (try rw [show ((0 : Int)).toNat = 0 from rfl] at hx303_8); (try rw [show 0 * 13 = 0 from rfl] at hx303_8); (try rw [Addr.add_zero'] at hx303_8); (try rw [show ((0 : Int)).toNat = 0 from rfl] at hx303_9); (try rw [show 0 * 13 = 0 from rfl] at hx303_9); (try rw [Addr.add_zero'] at hx303_9); (try rw [show ((0 : Int)).toNat = 0 from rfl] at hx303_10); (try rw [show 0 * 13 = 0 from rfl] at hx303_10); (try rw [Addr.add_zero'] at hx303_10); (try rw [show ((0 : Int)).toNat = 0 from rfl] at hx303_11); (try rw [show 0 * 13 = 0 from rfl] at hx303_11); (try rw [Addr.add_zero'] at hx303_11); (try rw [show ((0 : Int)).toNat = 0 from rfl] at hx303_12); (try rw [show 0 * 13 = 0 from rfl] at hx303_12); (try rw [Addr.add_zero'] at hx303_12); replace p303 := eq_true p303; replace q303 := eq_true q303) | ((with_reducible refine gate_callee (f := 14) rfl ?_); refine goesL_ (some 61) rfl rfl Tryd.func14 (by kernel_rfl) rfl #[.agg #[.int .i64 ((rd_T39 t300 0).f0), .string ((rd_T39 t300 0).f1), .string ((rd_T39 t300 0).f2), .bool ((rd_T39 t300 0).f3.f0), .string ((rd_T39 t300 0).f3.f1), .string ((rd_T39 t300 0).f3.f2), .bool ((rd_T39 t300 0).f4), .bool ((rd_T39 t300 0).f5), .int .i64 ((rd_T39 t300 0).f6.f0), .int .i64 ((rd_T39 t300 0).f6.f1), .int .i64 ((rd_T39 t300 0).f6.f2), .int .i64 ((rd_T39 t300 0).f6.f3), .int .i64 ((rd_T39 t300 0).f7)]] rfl (by (try simp only [List.map_toArray, List.map_cons, List.map_nil]); first | done | rfl | (simp only [List.length_drop, List.length_take]; rfl)) ?_; (with_reducible refine (colour_Read.calls ((rd_T39 t300 0).f0) ((rd_T39 t300 0).f1) ((rd_T39 t300 0).f2) ((rd_T39 t300 0).f3.f0) ((rd_T39 t300 0).f3.f1) ((rd_T39 t300 0).f3.f2) ((rd_T39 t300 0).f4) ((rd_T39 t300 0).f5) ((rd_T39 t300 0).f6.f0) ((rd_T39 t300 0).f6.f1) ((rd_T39 t300 0).f6.f2) ((rd_T39 t300 0).f6.f3) ((rd_T39 t300 0).f7) t304 t305 t306 t307 true _ ?side1 A76.out).mono ?_); (case side1 => first | exact hL | exact LaidW.below hL (by repeat (first | (with_reducible first | exact HB.out | apply below_alloc | apply pw_below_drewN | apply below_drew1 | refine below_set ?_ GE264.out) | exact HB.out)) | (repeat (first | exact hL | apply LaidW.drewN | apply LaidW.drew))); rintro e w87 ⟨rfl, hb⟩; refine ⟨_, rfl, ?_⟩; have n0_ := Aside0.mk (Kd.R_below (by (with_reducible repeat (first | apply Kd.R_alloc | apply Kd.R_drewN | apply Kd.R_drew)); exact HO_5.out) hb); have n1_ := Aside0.mk (Kd.V_below (by (with_reducible repeat (first | apply Kd.V_alloc | apply Kd.V_drewN | apply Kd.V_drew)); exact HO296.out) hb); have n2_ := Aside0.mk (Kd.R_below (by (with_reducible repeat (first | apply Kd.R_alloc | apply Kd.R_drewN | apply Kd.R_drew)); exact HO299.out) hb); have n3_ := Aside0.mk (Kd.R_below (by (with_reducible repeat (first | apply Kd.R_alloc | apply Kd.R_drewN | apply Kd.R_drew)); exact HO302.out) hb); have n4_ := Aside0.mk (blk_below (g := gb264) (o := .cells #[.int .i64 a0_0, .int .i64 a0_1, .int .i64 a0_2, .int .i64 a0_3] 26 (0, 0)) (by (with_reducible repeat (first | refine blk_drewN ?_ _ | refine blk_drew ?_ | refine blk_alloc ?_ _)); exact BK264.out) hb); have n5_ := Aside0.mk (below_step (by repeat (first | (with_reducible first | exact HB.out | apply below_alloc | apply pw_below_drewN | apply below_drew1 | refine below_set ?_ GE264.out) | exact HB.out)) hb); clear HO_5; clear HO296; clear HO299; clear HO302; clear BK264; clear HB; have HO_5 := n0_; have HO296 := n1_; have HO299 := n2_; have HO302 := n3_; have BK264 := n4_; have HB := n5_; clear n0_ n1_ n2_ n3_ n4_ n5_; (try clear hb); (try clear hb2); (try clear hk); (try clear hi)) | ((with_reducible refine gate_dst (N := 8) rfl ?_); (try (refine gate_guard (by rfl) ?_; dsimp only)); refine box_event ?hg (N := 8) ?hd (cs := #[.int .i64 0, .int .i64 0, .int .i64 0, .int .i64 0]) (t := 26) ?hr ?_; (case hd => rfl); (case hg => rfl); (case hr => first | (go_simp; done) | (go_simp; rfl)); intro gb309 hg w88 hbox hb; have n0_ := Aside0.mk (Kd.R_below (by (with_reducible repeat (first | apply Kd.R_alloc | apply Kd.R_drewN | apply Kd.R_drew)); exact HO_5.out) hb); have n1_ := Aside0.mk (Kd.V_below (Kd.V_elderB (by (with_reducible repeat (first | apply Kd.V_alloc | apply Kd.V_drewN | apply Kd.V_drew)); exact HO296.out) gb309 (Nat.le_of_eq hg.symm)) hb); have n2_ := Aside0.mk (Kd.R_below (by (with_reducible repeat (first | apply Kd.R_alloc | apply Kd.R_drewN | apply Kd.R_drew)); exact HO299.out) hb); have n3_ := Aside0.mk (Kd.R_below (by (with_reducible repeat (first | apply Kd.R_alloc | apply Kd.R_drewN | apply Kd.R_drew)); exact HO302.out) hb); have n4_ := Aside0.mk (blk_below (g := gb264) (o := .cells #[.int .i64 a0_0, .int .i64 a0_1, .int .i64 a0_2, .int .i64 a0_3] 26 (0, 0)) (by (with_reducible repeat (first | refine blk_drewN ?_ _ | refine blk_drew ?_ | refine blk_alloc ?_ _)); exact BK264.out) hb); have n5_ := Aside0.mk (below_step (by repeat (first | (with_reducible first | exact HB.out | apply below_alloc | apply pw_below_drewN | apply below_drew1 | refine below_set ?_ GE264.out) | exact HB.out)) hb); have n6_ := Aside0.mk (hbox); have n7_ := Aside0.mk ((by rw [hg]; exact (below_size (by repeat (first | (with_reducible first | exact HB.out | apply below_alloc | apply pw_below_drewN | apply below_drew1 | refine below_set ?_ GE264.out) | exact HB.out))) : w.heap.size ≤ gb309)); have n8_ := Aside0.mk ((by rw [hg]; exact (below_size (by repeat (first | (with_reducible first | exact HB.out | apply below_alloc | apply pw_below_drewN | apply below_drew1 | refine below_set ?_ GE264.out) | exact HB.out))) : w.heap.size ≤ gb309)); have n9_ := Aside0.mk ((by rw [hg]; exact Nat.ne_of_lt (blk_lt (g := gb264) (o := .cells #[.int .i64 a0_0, .int .i64 a0_1, .int .i64 a0_2, .int .i64 a0_3] 26 (0, 0)) (by (with_reducible repeat (first | refine blk_drewN ?_ _ | refine blk_drew ?_ | refine blk_alloc ?_ _)); exact BK264.out)) : gb264 ≠ gb309)); have n10_ := Aside0.mk ((by rw [hg]; exact Nat.ne_of_gt (blk_lt (g := gb264) (o := .cells #[.int .i64 a0_0, .int .i64 a0_1, .int .i64 a0_2, .int .i64 a0_3] 26 (0, 0)) (by (with_reducible repeat (first | refine blk_drewN ?_ _ | refine blk_drew ?_ | refine blk_alloc ?_ _)); exact BK264.out)) : gb309 ≠ gb264)); clear HO_5; clear HO296; clear HO299; clear HO302; clear BK264; clear HB; have HO_5 := n0_; have HO296 := n1_; have HO299 := n2_; have HO302 := n3_; have BK264 := n4_; have HB := n5_; have BK309 := n6_; have GW309 := n7_; have GE309 := n8_; have NB264_309 := n9_; have NB309_264 := n10_; clear n0_ n1_ n2_ n3_ n4_ n5_ n6_ n7_ n8_ n9_ n10_; clear hb hbox hg; have hnb89 := NB309_264.out; have hnc89 := NB264_309.out; have hcz90_0 : w88.cell? ⟨gb309, 0, none⟩ = some (.int .i64 0) := (blk_cell BK309.out 0).trans rfl; have hcz90_1 : w88.cell? ⟨gb309, 1, none⟩ = some (.int .i64 0) := (blk_cell BK309.out 1).trans rfl; have hcz90_2 : w88.cell? ⟨gb309, 2, none⟩ = some (.int .i64 0) := (blk_cell BK309.out 2).trans rfl; have hcz90_3 : w88.cell? ⟨gb309, 3, none⟩ = some (.int .i64 0) := (blk_cell BK309.out 3).trans rfl; have hfz90_0 := blk_frozen BK309.out 0; have hfz90_1 := blk_frozen BK309.out 1; have hfz90_2 := blk_frozen BK309.out 2; have hfz90_3 := blk_frozen BK309.out 3; have hcz91_0 : w88.cell? ⟨gb264, 0, none⟩ = some (.int .i64 a0_0) := (blk_cell BK264.out 0).trans rfl; have hcz91_1 : w88.cell? ⟨gb264, 1, none⟩ = some (.int .i64 a0_1) := (blk_cell BK264.out 1).trans rfl; have hcz91_2 : w88.cell? ⟨gb264, 2, none⟩ = some (.int .i64 a0_2) := (blk_cell BK264.out 2).trans rfl; have hcz91_3 : w88.cell? ⟨gb264, 3, none⟩ = some (.int .i64 a0_3) := (blk_cell BK264.out 3).trans rfl; have hfz91_0 := blk_frozen BK264.out 0; have hfz91_1 := blk_frozen BK264.out 1; have hfz91_2 := blk_frozen BK264.out 2; have hfz91_3 := blk_frozen BK264.out 3))
                go_roundg k3
                case measure => have := HK1.out; have := HJ62.out; have := HK3.out; omega
                case rel => exact ⟨(wrap64 (x6_3 + 1)), (by first | rfl | (simp; done) | (simp [bne_nil_]; done) | (simp [*]; done) | (simp [wrap64]; done) | (refine congrArg (Value.int .i64) ?_; unfold wrap64; omega)), H', ⟨by have := HK1.out; have := HJ62.out; have := HK3.out; omega⟩, ⟨by (with_reducible repeat (first | apply Kd.R_alloc | apply Kd.R_drewN | apply Kd.R_drew)); exact Kd.R_mono (Kd.R_far (p := ⟨gb309, 3, none⟩) (Kd.R_far (p := ⟨gb309, 2, none⟩) (Kd.R_far (p := ⟨gb309, 1, none⟩) (Kd.R_far (p := ⟨gb309, 0, none⟩) (Kd.R_types HO_5.out BK309.out (by decide)) (fun _ hk => hk.2) (.int .i64 t304)) (fun _ hk => hk.2) (.int .i64 t305)) (fun _ hk => hk.2) (.int .i64 t306)) (fun _ hk => hk.2) (.int .i64 t307)) (fun _ hk => trivial)⟩, ⟨by (with_reducible repeat (first | refine blk_drewN ?_ _ | refine blk_drew ?_ | refine blk_alloc ?_ _)); refine blk_far ?_ NB264_309.out _; (with_reducible repeat (first | refine blk_drewN ?_ _ | refine blk_drew ?_ | refine blk_alloc ?_ _)); refine blk_far ?_ NB264_309.out _; (with_reducible repeat (first | refine blk_drewN ?_ _ | refine blk_drew ?_ | refine blk_alloc ?_ _)); refine blk_far ?_ NB264_309.out _; (with_reducible repeat (first | refine blk_drewN ?_ _ | refine blk_drew ?_ | refine blk_alloc ?_ _)); refine blk_far ?_ NB264_309.out _; (with_reducible repeat (first | refine blk_drewN ?_ _ | refine blk_drew ?_ | refine blk_alloc ?_ _)); exact BK264.out⟩, ⟨by repeat (first | (with_reducible first | exact HB.out | apply below_alloc | apply pw_below_drewN | apply below_drew1 | refine below_set ?_ GE264.out | refine below_set ?_ GE309.out) | exact HB.out)⟩⟩
              ·replace c77 := Bool.eq_false_iff.mpr c77
               subst c77
               have H1 : (some false) = some r := by rw [if_neg (show ¬ (false = true) by decide)] at H; exact H
               clear H
               have H := H1
               clear H1
               exact absurd ((Option.some.inj H).trans hr_.out) (by decide)
             ·rw [if_neg c75] at H
              exact absurd H (by simp)
            ·rw [if_neg c74] at H
             have c74b0 : ((t300.length : Int) == 1) = false := beq_eq_false_iff_ne.mpr c74
             have c74b1 : ((t300.length : Int) != 1) = true := bne_iff_ne.mpr c74
             exact absurd ((Option.some.inj H).trans hr_.out) (by decide)
           ·rw [if_neg c71] at H
            exact absurd H (by simp)
          ·rw [if_neg c70] at H
           exact absurd H (by simp)
         ·rw [if_neg c69] at H
          have c69b0 : decide (x6_3 < (t290.length : Int)) = false := decide_eq_false c69
          clear c69
          obtain rfl := Option.some.inj H
          obtain ⟨Ao92, co92, eo92⟩ := Kd.R_slice HO_5.out
          subst eo92
          go_wp2
          go_ret
          exact ⟨by first | rfl | (simp [errW_none, errW_some] <;> rfl) | (simp [*, errW_none, errW_some] <;> rfl), by repeat (first | (with_reducible first | exact HB.out | apply below_alloc | apply pw_below_drewN | apply below_drew1 | refine below_set ?_ GE264.out) | exact HB.out)⟩
def l19_ColourBack.Pure : Prop := ∀ (a0_0 : Int) (a0_1 : Int) (a0_2 : Int) (a0_3 : Int), (Lit.int .i64 a0_0).wf = true → (Lit.int .i64 a0_1).wf = true → (Lit.int .i64 a0_2).wf = true → (Lit.int .i64 a0_3).wf = true → ∃ k, l19_ColourBack.f k a0_0 a0_1 a0_2 a0_3 = some true
theorem l19_ColourBack.walk (P : l19_ColourBack.Pure) (a0_0 : Int) (a0_1 : Int) (a0_2 : Int) (a0_3 : Int) (w : World) (w0_0 : (Lit.int .i64 a0_0).wf = true) (w0_1 : (Lit.int .i64 a0_1).wf = true) (w0_2 : (Lit.int .i64 a0_2).wf = true) (w0_3 : (Lit.int .i64 a0_3).wf = true) (hL : LaidW w) :
  Calls Tryd.prog 4 #[.agg #[.int .i64 a0_0, .int .i64 a0_1, .int .i64 a0_2, .int .i64 a0_3]] w fun e w' => e = .returned (.bool true) ∧ Below w.heap.size w w' := by
 obtain ⟨k, h⟩ := P a0_0 a0_1 a0_2 a0_3 w0_0 w0_1 w0_2 w0_3
 refine (l19_ColourBack.calls k a0_0 a0_1 a0_2 a0_3 true w hL ⟨rfl⟩ h).mono ?_
 rintro e w' ⟨rfl, hd⟩
 exact ⟨rfl, hd⟩
end Go.Proofs.YthonpnaccjajcaaDoor.P
