import Derived.Test.YthonpnaccjajcaaGreatDoorColourWherePx0
namespace Go.Proofs.YthonpnaccjajcaaGreatDoor.P
open Go.RowKit Go.Proofs.YthonpnaccjajcaaGreatDoorW.PrintWords Go.Proofs.YthonpnaccjajcaaGreatDoorW.PrintLast Go.Proofs.YthonpnaccjajcaaGreatDoorW.PrintMore Go.Proofs.YthonpnaccjajcaaGreatDoorX
attribute [local go_sem] max2_int min2_int max_two min_two max_three min_three max_four min_four
set_option linter.unusedVariables false
set_option linter.unusedSimpArgs false
def colour_Names.l0 : Nat → List ByteArray → List ByteArray → Int → Int → Option (List ByteArray)
 | 0, _, _, _, _ => none
 | k + 1, x1, x4, x5, x6 => if x6 < x5 then (if 0 ≤ x6 then (if x6 < (x4.length : Int) then (if (Int.tmod x6 2) = 0 then (if x1.length < 8796093022208 then (colour_Names.l0 k (x1 ++ [rdOf ByteArray.empty x4 x6]) x4 x5 (wrap64 (x6 + 1))) else (none)) else (colour_Names.l0 k x1 x4 x5 (wrap64 (x6 + 1)))) else (none)) else (none)) else (some x1)
def colour_Names.f (k : Nat)  : Option (List ByteArray) := (colour_words.f).bind fun t484 => (colour_Names.l0 k ([] : List ByteArray) t484 (t484.length : Int) 0)
set_option maxHeartbeats 8000000 in
set_option maxRecDepth 100000 in
theorem colour_Names.calls (k : Nat)  (r : List ByteArray) (w : World) (hL : LaidW w) (h : colour_Names.f k  = some r) :
  Calls Tryz.prog 25 #[] w fun e w' => ∃ v0_ : Value, e = .returned (v0_) ∧ Kd.R Kd.string 9 w' w.heap.size (fun _ => True) v0_ r ∧ Below w.heap.size w w' := by
 have HB := Aside0.mk (Below.refl w.heap.size w)
 have H : ((colour_words.f).bind fun t484 => (colour_Names.l0 k ([] : List ByteArray) t484 (t484.length : Int) 0)) = some r := h
 clear h
 replace H := Option.bind_eq_some_iff.mp H
 obtain ⟨t484, A10, H⟩ := H
 replace H : (colour_Names.l0 k ([] : List ByteArray) t484 (t484.length : Int) 0) = some r := H
 have A1 := Aside0.mk A10
 clear A10
 have H' := Aside0.mk H
 clear H
 go_enter Tryz.func25, Tryz.ntmps25
 go_wp2_with (first | ((with_reducible refine gate_callee (f := 26) rfl ?_); refine goesL_ (some 4) rfl rfl Tryz.func26 (by kernel_rfl) rfl #[] rfl agP ?_; (with_reducible refine (colour_words.calls  t484 _ ?side1 A1.out).mono ?_); (case side1 => first | exact hL | exact LaidW.below hL (hbP0 HB.out) | (repeat (first | exact hL | apply LaidW.drewN | apply LaidW.drew))); rintro e w2 ⟨v485, rfl, ho0, hb⟩; refine ⟨_, rfl, ?_⟩; have n0_ := Aside0.mk (Kd.R_lower ho0 (below_size (hbP0 HB.out))); have n1_ := Aside0.mk (below_step (hbP0 HB.out) hb); clear HB; have HO486 := n0_; have HB := n1_; clear n0_ n1_; (try clear hb); (try clear hb2); (try clear hk); (try clear hi); (try clear ho0); obtain ⟨Ao3, co3, eo3⟩ := Kd.R_slice HO486.out; subst eo3))
 go_loopg [1, 6] k (fun kq v1 v6 w' => ∃ (x1_1 : List ByteArray) (x6_1 : Int), v6 = .int .i64 x6_1 ∧ Aside0 (colour_Names.l0 kq x1_1 t484 (t484.length : Int) x6_1 = some r) ∧ Aside0 (kq ≤ k) ∧ Aside0 (Kd.R Kd.string 9 w' w.heap.size (fun k_ => some k_ ≠ ((.slice Ao3 t484.length co3) : Value).ownBlock) v1 x1_1) ∧ Aside0 (Kd.R Kd.string 9 w' w.heap.size (fun k_ => some k_ ≠ (v1 : Value).ownBlock) (.slice Ao3 t484.length co3) t484) ∧ Aside0 (Below w.heap.size w w'))
 case atStart => exact ⟨(([] : List ByteArray)), (0), vqP, H', ⟨Nat.le_refl _⟩, ⟨by first | exact Kd.R_nil _ _ _ _ _ | exact Kd.N_nil _ _ _ _ _ | exact Kd.V_nil _ _ _ _ _ | exact Kd.Q_nil _ _ _ _ _ | exact Kd.S_nil _ _ _ _ _⟩, ⟨by (with_reducible repeat (first | apply Kd.R_alloc | apply Kd.R_drewN | apply Kd.R_drew)); exact Kd.R_mono HO486.out (fun _ hk => (by simp [Value.ownBlock]))⟩, ⟨hbP0 HB.out⟩⟩
 case round =>
  clear H'
  obtain ⟨x1_1, x6_1, rfl, HA, HK1, HO_1, HO_4, HB⟩ := hrel
  cases gk with
  | zero => exact absurd HA.out (by simp [colour_Names.l0])
  | succ k1 =>
   have H := HA.out
   clear HA
   simp only [colour_Names.l0] at H
   by_cases c4 : x6_1 < (t484.length : Int)
   ·rw [if_pos c4] at H
    have c4b0 : decide (x6_1 < (t484.length : Int)) = true := decide_eq_true c4
    clear c4
    by_cases c5 : 0 ≤ x6_1
    ·rw [if_pos c5] at H
     have c5b0 : decide (0 ≤ x6_1) = true := decide_eq_true c5
     clear c5
     by_cases c6 : x6_1 < (t484.length : Int)
     ·rw [if_pos c6] at H
      have c6b0 : decide (x6_1 < (t484.length : Int)) = true := decide_eq_true c6
      clear c6
      by_cases c7 : (Int.tmod x6_1 2) = 0
      ·rw [if_pos c7] at H
       have c7b0 : ((Int.tmod x6_1 2) == 0) = true := beq_iff_eq.mpr c7
       have c7b1 : ((Int.tmod x6_1 2) != 0) = false := bne_eq_false_iff_eq.mpr c7
       clear c7
       by_cases c8 : x1_1.length < 8796093022208
       ·rw [if_pos c8] at H
        have LMc8 := Aside0.mk c8
        clear c8
        obtain ⟨y488, hy488⟩ : ∃ y_ : List ByteArray, y_ = (x1_1 ++ [rdOf ByteArray.empty t484 x6_1]) := ⟨_, rfl⟩
        replace H : (colour_Names.l0 k1 y488 t484 (t484.length : Int) (wrap64 (x6_1 + 1))) = some r := by first | (rw [hy488]; with_reducible exact H) | (have H2_ := (Option.bind_some _ _).symm.trans H; rw [hy488]; with_reducible exact H2_) | (have H2_ := (Option.bind_some _ _).symm.trans H; with_reducible exact H2_) | with_reducible exact H | (rw [hy488]; exact H) | exact H
        have Ny488 := Aside0.mk hy488
        clear hy488
        have H' := Aside0.mk H
        clear H
        have p487 : 0 ≤ (x6_1 : Int) := of_decide_eq_true (by first | (with_reducible assumption) | assumption)
        have q487 : x6_1 < (t484.length : Int) := of_decide_eq_true (by first | (with_reducible assumption) | assumption)
        obtain ⟨ad487, e487, hx487_0⟩ := Kd.at_string (Kd.R_reads' HO_4.out).2.2 x6_1 p487 q487
        cases e487
        replace p487 := eq_true p487
        replace q487 := eq_true q487
        go_wp2_with (first | ((with_reducible refine gate_builtin (b := .append) (xs := #[.tmp 14, .tmp 16]) rfl ?_); at_builtin; refine Kd.R_append Kd.string (w0 := w) w.heap.size rfl (.tmp 14) (.tmp 16) 23 9 (.string ⟨#[]⟩) 16 rfl Tryz.underlying23 info9 rfl (by decide) (by omega) u1 x1_1 (rdOf ByteArray.empty t484 x6_1) [.string (rdOf ByteArray.empty t484 x6_1)] (fun k_ => some k_ ≠ (.slice (some ad487) t484.length co3 : Value).ownBlock) (fun _ => False) rfl rfl ?aP (fun _ hk => hk.elim) ?aF ?aO ?aB ?aS ?aL ?_; (case aP => exact rfl); (case aB => exact (hbP0 HB.out)); (case aF => exact (fun k_ hk => Kd.fresh' (Kd.R_lt (rwP HO_4.out)) k_ hk)); (case aO => exact (rwP HO_1.out)); (case aS => exact (below_size (hbP0 HB.out))); (case aL => have := LMc8.out; omega); intro v489 w9 ho hb hg hat; rw [← Ny488.out] at ho; have n0_ := Aside0.mk (Kd.R_after (ok := (fun _ => True)) (by (with_reducible repeat (first | apply Kd.R_alloc | apply Kd.R_drewN | apply Kd.R_drew)); exact Kd.R_mono HO_4.out (fun _ hk => ⟨trivial, hk⟩)) hg hat); have n1_ := Aside0.mk (hb); have n2_ := Aside0.mk (ho); clear HO_4; clear HB; clear HO_1; have HO_4 := n0_; have HB := n1_; have HO490 := n2_; clear n0_ n1_ n2_; clear ho hb hg hat))
        go_roundg k1
        case measure => have := HK1.out; omega
        case rel => exact ⟨(y488), (wrap64 (x6_1 + 1)), vqP, H', ⟨by have := HK1.out; omega⟩, ⟨rwP HO490.out⟩, ⟨by (with_reducible repeat (first | apply Kd.R_alloc | apply Kd.R_drewN | apply Kd.R_drew)); exact Kd.R_mono HO_4.out (fun _ hk => hk.2)⟩, ⟨hbP0 HB.out⟩⟩
       ·rw [if_neg c8] at H
        exact absurd H (by simp)
      ·rw [if_neg c7] at H
       have c7b0 : ((Int.tmod x6_1 2) == 0) = false := beq_eq_false_iff_ne.mpr c7
       have c7b1 : ((Int.tmod x6_1 2) != 0) = true := bne_iff_ne.mpr c7
       have H' := Aside0.mk H
       clear H
       have p487 : 0 ≤ (x6_1 : Int) := of_decide_eq_true (by first | (with_reducible assumption) | assumption)
       have q487 : x6_1 < (t484.length : Int) := of_decide_eq_true (by first | (with_reducible assumption) | assumption)
       obtain ⟨ad487, e487, hx487_0⟩ := Kd.at_string (Kd.R_reads' HO_4.out).2.2 x6_1 p487 q487
       cases e487
       replace p487 := eq_true p487
       replace q487 := eq_true q487
       go_wp2
       go_roundg k1
       case measure => have := HK1.out; omega
       case rel => exact ⟨(x1_1), (wrap64 (x6_1 + 1)), vqP, H', ⟨by have := HK1.out; omega⟩, ⟨rwP HO_1.out⟩, ⟨rwP HO_4.out⟩, ⟨hbP0 HB.out⟩⟩
     ·rw [if_neg c6] at H
      exact absurd H (by simp)
    ·rw [if_neg c5] at H
     exact absurd H (by simp)
   ·rw [if_neg c4] at H
    have c4b0 : decide (x6_1 < (t484.length : Int)) = false := decide_eq_false c4
    clear c4
    obtain rfl := Option.some.inj H
    go_wp2
    go_ret
    exact ⟨_, by first | rfl | (simp [errW_none, errW_some] <;> rfl) | (simp [*, errW_none, errW_some] <;> rfl), by (with_reducible repeat (first | apply Kd.R_alloc | apply Kd.R_drewN | apply Kd.R_drew)); exact Kd.R_mono HO_1.out (fun _ hk => trivial), hbP0 HB.out⟩
end Go.Proofs.YthonpnaccjajcaaGreatDoor.P
