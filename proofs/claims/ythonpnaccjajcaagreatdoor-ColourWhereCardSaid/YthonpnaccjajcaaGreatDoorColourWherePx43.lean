import Derived.Test.YthonpnaccjajcaaGreatDoorColourWherePx42
namespace Go.Proofs.YthonpnaccjajcaaGreatDoor.P
open Go.RowKit Go.Proofs.YthonpnaccjajcaaGreatDoorW.PrintWords Go.Proofs.YthonpnaccjajcaaGreatDoorW.PrintLast Go.Proofs.YthonpnaccjajcaaGreatDoorW.PrintMore Go.Proofs.YthonpnaccjajcaaGreatDoorX
attribute [local go_sem] max2_int min2_int max_two min_two max_three min_three max_four min_four
set_option linter.unusedVariables false
set_option linter.unusedSimpArgs false
def r13_Runes.l0 : Nat → List Int → List (S53) → Int → Option ((List (S53)))
 | 0, _, _, _ => none
 | k + 1, x0, x3, x4 => if x4 < (x0.length : Int) then ((r1_Next.f k x0 x4).bind fun bt436 => (if bt436.1 = 0 then (none) else (if bt436.1 = 12 then (none) else (if bt436.1 = 13 then (none) else (if x3.length < 8796093022208 then (r13_Runes.l0 k x0 (x3 ++ [(⟨bt436.1, x4⟩ : S53)]) (wrap64 (x4 + bt436.2.1))) else (none)))))) else (some x3)
def r13_Runes.f (k : Nat) (l0 : List Int) : Option ((List (S53))) := r13_Runes.l0 k l0 ([] : List (S53)) 0
set_option maxHeartbeats 8000000 in
set_option maxRecDepth 100000 in
theorem r13_Runes.calls (k : Nat) (A0 : Option Addr) (c0 : Nat) (l0 : List Int) (r : List (S53)) (w : World) (hr0 : Kd.C (Kd.int .u8) w A0 l0.length l0) (hc0 : l0.length ≤ c0) (h : r13_Runes.f k l0 = some r) :
  Calls Tryz.prog 8 #[.slice A0 l0.length c0] w fun e w' => ∃ v0_ : Value, e = .returned (v0_) ∧ Kd.R k53 53 w' w.heap.size (fun _ => True) v0_ r ∧ Below w.heap.size w w' := by
 have hu53 := Tryz.underlying53
 have HR0 := Aside0.mk hr0
 have HC0 := Aside0.mk hc0
 clear hr0 hc0
 have HB := Aside0.mk (Below.refl w.heap.size w)
 have H : (r13_Runes.l0 k l0 ([] : List (S53)) 0) = some r := h
 clear h
 have H' := Aside0.mk H
 clear H
 go_enter Tryz.func8, Tryz.ntmps8
 go_wp2
 go_loopg [3, 4] k (fun kq v3 v4 w' => ∃ (x3_1 : List (S53)) (x4_1 : Int), v4 = .int .i64 x4_1 ∧ Aside0 (r13_Runes.l0 kq l0 x3_1 x4_1 = some r) ∧ Aside0 (kq ≤ k) ∧ Aside0 (Kd.R k53 53 w' w.heap.size (fun _ => True) v3 x3_1) ∧ Aside0 (Below w.heap.size w w'))
 case atStart => exact ⟨(([] : List (S53))), (0), vqP, H', ⟨Nat.le_refl _⟩, ⟨by first | exact Kd.R_nil _ _ _ _ _ | exact Kd.N_nil _ _ _ _ _ | exact Kd.V_nil _ _ _ _ _ | exact Kd.Q_nil _ _ _ _ _ | exact Kd.S_nil _ _ _ _ _⟩, ⟨hbP0 HB.out⟩⟩
 case round =>
  clear H'
  obtain ⟨x3_1, x4_1, rfl, HA, HK1, HO_3, HB⟩ := hrel
  cases gk with
  | zero => exact absurd HA.out (by simp [r13_Runes.l0])
  | succ k1 =>
   have H := HA.out
   clear HA
   simp only [r13_Runes.l0] at H
   by_cases c2 : x4_1 < (l0.length : Int)
   ·rw [if_pos c2] at H
    have c2b0 : decide (x4_1 < (l0.length : Int)) = true := decide_eq_true c2
    clear c2
    replace H := Option.bind_eq_some_iff.mp H
    obtain ⟨⟨t436, t437, t438⟩, A30, H⟩ := H
    replace H : (if t436 = 0 then (none) else (if t436 = 12 then (none) else (if t436 = 13 then (none) else (if x3_1.length < 8796093022208 then (r13_Runes.l0 k1 l0 (x3_1 ++ [(⟨t436, x4_1⟩ : S53)]) (wrap64 (x4_1 + t437))) else (none))))) = some r := H
    have A3 := Aside0.mk A30
    clear A30
    by_cases c4 : t436 = 0
    ·rw [if_pos c4] at H
     exact absurd H (by simp)
    ·rw [if_neg c4] at H
     have c4b0 : (t436 == 0) = false := beq_eq_false_iff_ne.mpr c4
     have c4b1 : (t436 != 0) = true := bne_iff_ne.mpr c4
     by_cases c5 : t436 = 12
     ·rw [if_pos c5] at H
      exact absurd H (by simp)
     ·rw [if_neg c5] at H
      have c5b0 : (t436 == 12) = false := beq_eq_false_iff_ne.mpr c5
      have c5b1 : (t436 != 12) = true := bne_iff_ne.mpr c5
      by_cases c6 : t436 = 13
      ·rw [if_pos c6] at H
       exact absurd H (by simp)
      ·rw [if_neg c6] at H
       have c6b0 : (t436 == 13) = false := beq_eq_false_iff_ne.mpr c6
       have c6b1 : (t436 != 13) = true := bne_iff_ne.mpr c6
       by_cases c7 : x3_1.length < 8796093022208
       ·rw [if_pos c7] at H
        have LMc7 := Aside0.mk c7
        clear c7
        obtain ⟨y455, hy455⟩ : ∃ y_ : List (S53), y_ = (x3_1 ++ [(⟨t436, x4_1⟩ : S53)]) := ⟨_, rfl⟩
        replace H : (r13_Runes.l0 k1 l0 y455 (wrap64 (x4_1 + t437))) = some r := by first | (rw [hy455]; with_reducible exact H) | (have H2_ := (Option.bind_some _ _).symm.trans H; rw [hy455]; with_reducible exact H2_) | (have H2_ := (Option.bind_some _ _).symm.trans H; with_reducible exact H2_) | with_reducible exact H | (rw [hy455]; exact H) | exact H
        have Ny455 := Aside0.mk hy455
        clear hy455
        have H' := Aside0.mk H
        clear H
        go_wp2_with (first | ((with_reducible refine gate_callee (f := 24) rfl ?_); refine goesL_ (some 16) rfl rfl Tryz.func24 (by kernel_rfl) rfl #[.slice A0 l0.length c0, .int .i64 x4_1] rfl agP ?_; (with_reducible refine (r1_Next.calls k1 _ _ l0 x4_1 t436 t437 t438 _ ?side1 ?side2 A3.out).mono ?_); (case side1 => repeat (first | exact (Kd.C_below HR0.out HB.out) | (with_reducible refine Kd.C_alloc ?_ _) | (with_reducible refine Kd.C_drewN ?_ _) | (with_reducible refine Kd.C_drew ?_))); (case side2 => exact HC0.out); rintro e w' ⟨rfl, ⟨nd, rfl⟩⟩; refine ⟨_, rfl, ?_⟩) | ((with_reducible refine gate_builtin (b := .append) (xs := #[.tmp 46, .tmp 50]) rfl ?_); at_builtin; refine Kd.R_append k53 (w0 := w) w.heap.size rfl (.tmp 46) (.tmp 50) 28 53 (.agg #[(.int .i64 0), (.int .i64 0)]) 16 rfl Tryz.underlying28 info53 rfl (by decide) (by omega) u3 x3_1 (⟨t436, x4_1⟩ : S53) [.int .i64 t436, .int .i64 x4_1] (fun _ => True) (fun _ => False) rfl rfl ?aP (fun _ hk => hk.elim) ?aF ?aO ?aB ?aS ?aL ?_; (case aP => exact k53_mkM _ _ _ (⟨t436, x4_1⟩ : S53)); (case aB => exact (hbP0 HB.out)); (case aF => exact (fun _ _ => trivial)); (case aO => exact (rwP HO_3.out)); (case aS => exact (below_size (hbP0 HB.out))); (case aL => have := LMc7.out; omega); intro v456 w8 ho hb hg hat; rw [← Ny455.out] at ho; have n0_ := Aside0.mk (hb); have n1_ := Aside0.mk (ho); clear HB; clear HO_3; have HB := n0_; have HO457 := n1_; clear n0_ n1_; clear ho hb hg hat))
        go_roundg k1
        case measure => have := HK1.out; omega
        case rel => exact ⟨(y455), (wrap64 (x4_1 + t437)), vqP, H', ⟨by have := HK1.out; omega⟩, ⟨rwP HO457.out⟩, ⟨hbP0 HB.out⟩⟩
       ·rw [if_neg c7] at H
        exact absurd H (by simp)
   ·rw [if_neg c2] at H
    have c2b0 : decide (x4_1 < (l0.length : Int)) = false := decide_eq_false c2
    clear c2
    obtain rfl := Option.some.inj H
    go_wp2
    go_ret
    exact ⟨_, by first | rfl | (simp [errW_none, errW_some] <;> rfl) | (simp [*, errW_none, errW_some] <;> rfl), by exact rwP HO_3.out, hbP0 HB.out⟩
end Go.Proofs.YthonpnaccjajcaaGreatDoor.P
