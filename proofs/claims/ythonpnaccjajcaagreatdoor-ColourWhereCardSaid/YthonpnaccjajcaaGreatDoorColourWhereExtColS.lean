/- CONTRACT of colour.Spell, over the printed colour.Names and colour.Named. Type numbers (9 string, 23 []string, 26 Colour, info9) are this seat's. -/
import Derived.Test.YthonpnaccjajcaaGreatDoorColourWherePx3
import Derived.Test.YthonpnaccjajcaaGreatDoorColourWherePx47
set_option linter.unusedVariables false
set_option linter.unusedSimpArgs false
namespace Go.Proofs.YthonpnaccjajcaaGreatDoorX
open Go.RowKit Go.Proofs.YthonpnaccjajcaaGreatDoorW.PrintWords Go.Proofs.YthonpnaccjajcaaGreatDoorW.PrintLast Go.Proofs.YthonpnaccjajcaaGreatDoorW.PrintMore Go.Shelf Go.Proofs.YthonpnaccjajcaaGreatDoor.P
def dgt (x : Int) : ByteArray := (⟨#[48, 49, 50, 51, 52, 53, 54, 55, 56, 57, 97, 98, 99, 100, 101, 102]⟩ : ByteArray).extract x.toNat (x + 1).toNat
def cAt (c0 c1 c2 c3 : Int) : Nat → Int | 0 => c0 | 1 => c1 | 2 => c2 | _ => c3
def shortK (c : Nat → Int) : Nat → ByteArray | 0 => ⟨#[35]⟩ | k + 1 => shortK c k ++ dgt (c k % 16)
def longK (c : Nat → Int) : Nat → ByteArray | 0 => ⟨#[35]⟩ | k + 1 => longK c k ++ (dgt (c k / 16) ++ dgt (c k % 16))
def dblK (c : Nat → Int) : Nat → Bool | 0 => true | k + 1 => dblK c k && (c k % 17 == 0)
def rng (c : Nat → Int) (k : Nat) : Prop := ∀ j, j < k → 0 ≤ c j ∧ c j ≤ 255
theorem rng_succ {c : Nat → Int} {k : Nat} (h : rng c k) (h0 : 0 ≤ c k) (h1 : c k ≤ 255) : rng c (k + 1) := fun j hj => by
  by_cases e : j = k
  · subst e; exact ⟨h0, h1⟩
  · exact h j (by omega)
theorem dgt_size (x : Int) (h0 : 0 ≤ x) (h1 : x < 16) : (dgt x).size = 1 := by
  unfold dgt
  rw [ByteArray.size_extract]
  have : (⟨#[48, 49, 50, 51, 52, 53, 54, 55, 56, 57, 97, 98, 99, 100, 101, 102]⟩ : ByteArray).size = 16 := rfl
  rw [this]
  omega
theorem shortK_size (c : Nat → Int) : ∀ k, rng c k → (shortK c k).size = k + 1
  | 0, _ => rfl
  | k + 1, h => by
    have := h k (by omega)
    show (shortK c k ++ dgt (c k % 16)).size = _
    rw [ByteArray.size_append, shortK_size c k (fun j hj => h j (by omega)), dgt_size _ (by omega) (by omega)]
theorem longK_size (c : Nat → Int) : ∀ k, rng c k → (longK c k).size = 2 * k + 1
  | 0, _ => rfl
  | k + 1, h => by
    have := h k (by omega)
    show (longK c k ++ (dgt (c k / 16) ++ dgt (c k % 16))).size = _
    rw [ByteArray.size_append, ByteArray.size_append, longK_size c k (fun j hj => h j (by omega)), dgt_size _ (by omega) (by omega), dgt_size _ (by omega) (by omega)]
    omega
theorem own_not {v v1 : Value} {W : World} {g : Nat} (h : v.ownBlock ≠ some g) (hat : v1.ownBlock = v.ownBlock ∨ ∃ b, v1.ownBlock = some b ∧ W.heap.size ≤ b) (hg : g < W.heap.size) : v1.ownBlock ≠ some g := by
  rcases hat with h1 | ⟨b, h1, h2⟩
  · rw [h1]; exact h
  · rw [h1]; intro e; injection e with e; omega
theorem after_ne {u : Value} {s : Nat} (hlt : ∀ k, u.ownBlock = some k → k < s) : ∀ k, s ≤ k → some k ≠ u.ownBlock := fun k hk he => by have := hlt k he.symm; omega
def LK (N : List ByteArray) (P4 : Nat → Int × Int × Int × Int × Bool) (c0 c1 c2 : Int) : Nat → List ByteArray
  | 0 => []
  | j + 1 => if ((P4 j).1 == c0 && ((P4 j).2.1 == c1 && ((P4 j).2.2.1 == c2 && ((P4 j).2.2.2.1 == 255)))) = true then LK N P4 c0 c1 c2 j ++ [rdOf ByteArray.empty N j] else LK N P4 c0 c1 c2 j
theorem LK_len (N : List ByteArray) (P4 : Nat → Int × Int × Int × Int × Bool) (c0 c1 c2 : Int) : ∀ j, (LK N P4 c0 c1 c2 j).length ≤ j
  | 0 => by simp [LK]
  | j + 1 => by
    have := LK_len N P4 c0 c1 c2 j
    simp only [LK]
    split
    · rw [List.length_append]; simp; omega
    · omega
theorem eqCol (d : Nat) (w : World) (x0 y0 : Int) (x1 y1 : Int) (x2 y2 : Int) (x3 y3 : Int) :
  (Op.equalIn (d + 2) 33 (.agg #[.int .i64 x0, .int .i64 x1, .int .i64 x2, .int .i64 x3]) (.agg #[.int .i64 y0, .int .i64 y1, .int .i64 y2, .int .i64 y3])).run Tryz.prog w = .ok (x0 == y0 && (x1 == y1 && (x2 == y2 && (x3 == y3)))) w := by
 obtain ⟨i_, hi_⟩ := Option.isSome_iff_exists.1 (show (Tryz.prog.info? 3).isSome = true by kernel_rfl)
 rw [run_equalIn_array w (d + 1) _ _ Tryz.underlying33 hi_, show Tryz.prog.cellsOf 3 = 1 from by kernel_rfl]
 show (Op.eqItems (d + 1) 3 1 _ _ [0, 1, 2, 3]).run _ _ = _
 refine eqi_cons (by go_simp; rfl) (by go_simp; rfl) (by go_simp) ?_
 refine eqi_cons (by go_simp; rfl) (by go_simp; rfl) (by go_simp) ?_
 refine eqi_cons (by go_simp; rfl) (by go_simp; rfl) (by go_simp) ?_
 exact eqi_last (by go_simp; rfl) (by go_simp; rfl) (by go_simp)
attribute [local go_sem high] eqCol
set_option maxHeartbeats 4000000 in
set_option maxRecDepth 100000 in
theorem spell3 (c0 c1 c2 : Int) (w : World) (hL : LaidW w) (r L : List ByteArray) (kN : Nat) (N : List ByteArray) (HNf : Aside0 (colour_Names.f kN = some N)) (hNl : N.length ≤ 100000) (P4 : Nat → Int × Int × Int × Int × Bool) (HPf : Aside0 (∀ j : Nat, j < N.length → ∃ k, colour_Named.f k (rdOf ByteArray.empty N j) = some (P4 j))) (HLf : Aside0 (L = LK N P4 c0 c1 c2 N.length)) (hr0 : ¬ rng (cAt c0 c1 c2 255) 3 → r = []) (hr1 : rng (cAt c0 c1 c2 255) 3 → r = (if dblK (cAt c0 c1 c2 255) 3 = true then [shortK (cAt c0 c1 c2 255) 3] else []) ++ [longK (cAt c0 c1 c2 255) 3] ++ L) :
    Calls Tryz.prog 9 #[.agg #[.int .i64 c0, .int .i64 c1, .int .i64 c2, .int .i64 255]] w fun e w' => ∃ v0_ : Value, e = .returned (v0_) ∧ Kd.R Kd.string 9 w' w.heap.size (fun _ => True) v0_ r ∧ Below w.heap.size w w' := by
  go_enter Tryz.func9, Tryz.ntmps9
  go_wp2
  go_loopw [4, 5, 6, 20] (fun s l d i wr => ∃ k : Nat, k ≤ 3 ∧ i = .int .i64 k ∧ s = .string (shortK (cAt c0 c1 c2 255) k) ∧ l = .string (longK (cAt c0 c1 c2 255) k) ∧ d = .bool (dblK (cAt c0 c1 c2 255) k) ∧ Hid (rng (cAt c0 c1 c2 255) k) ∧ ∃ q, wr = (w.alloc (.cells #[.int .i64 c0, .int .i64 c1, .int .i64 c2, .int .i64 255] 33)).drewN q) (fun _ _ _ i _ => 3 - (intOf i).toNat)
  case atStart => exact ⟨0, by omega, rfl, rfl, rfl, rfl, Lib.hid (fun j hj => absurd hj (by omega)), 0, rfl⟩
  case round =>
    obtain ⟨k, hk, rfl, rfl, rfl, rfl, HR, q, rfl⟩ := hrel
    have hk4 : k = 0 ∨ k = 1 ∨ k = 2 ∨ k = 3 := by omega
    have hs := shortK_size _ k HR.out
    have hl := longK_size _ k HR.out
    have HS := Lib.hid hs
    have HLg := Lib.hid hl
    clear hs hl
    generalize hsh : shortK (cAt c0 c1 c2 255) k = sh at HS ⊢
    generalize hlo : longK (cAt c0 c1 c2 255) k = lo at HLg ⊢
    generalize hdb : dblK (cAt c0 c1 c2 255) k = db
    have HSH := Lib.hid hsh; have HLO := Lib.hid hlo; have HDB := Lib.hid hdb
    clear hsh hlo hdb
    rcases hk4 with rfl | rfl | rfl | rfl
    · by_cases h0 : c0 < 0
      · have hr : r = [] := hr0 (fun h => by have h_ : 0 ≤ c0 ∧ c0 ≤ 255 := h 0 (by omega); omega)
        subst hr
        go_wp2
        go_ret
        exact ⟨_, rfl, Kd.R_nil _ _ _ _ _, pw_below_drewN (below_alloc (Below.refl _ _) _) _⟩
      by_cases h1 : 255 < c0
      · have hr : r = [] := hr0 (fun h => by have h_ : 0 ≤ c0 ∧ c0 ≤ 255 := h 0 (by omega); omega)
        subst hr
        go_wp2
        go_ret
        exact ⟨_, rfl, Kd.R_nil _ _ _ _ _, pw_below_drewN (below_alloc (Below.refl _ _) _) _⟩
      have b0 : 0 ≤ c0 := by omega
      have b1 : c0 ≤ 255 := by omega
      have f0 : (0 ≤ c0 % 16) = True := eq_true (by omega)
      have f1 : (c0 % 16 ≤ c0 % 16 + 1) = True := eq_true (by omega)
      have f2 : (c0 % 16 + 1 ≤ 16) = True := eq_true (by omega)
      have g0 : (0 ≤ c0 / 16) = True := eq_true (by omega)
      have g1 : (c0 / 16 ≤ c0 / 16 + 1) = True := eq_true (by omega)
      have g2 : (c0 / 16 + 1 ≤ 16) = True := eq_true (by omega)
      have hs0 : sh.size ≤ 10 := by have := HS.out; omega
      have hl0 : lo.size ≤ 10 := by have := HLg.out; omega
      have q1 : (9223372036854775807 < sh.size + ((c0 % 16 + 1).toNat - (c0 % 16).toNat)) = False := eq_false (by omega)
      have q2 : (9223372036854775807 < ((c0 / 16 + 1).toNat - (c0 / 16).toNat) + ((c0 % 16 + 1).toNat - (c0 % 16).toNat)) = False := eq_false (by omega)
      have q3 : (9223372036854775807 < lo.size + (((c0 / 16 + 1).toNat - (c0 / 16).toNat) + ((c0 % 16 + 1).toNat - (c0 % 16).toNat))) = False := eq_false (by omega)
      have HRS : Hid (rng (cAt c0 c1 c2 255) 1) := Lib.hid (rng_succ HR.out b0 b1)
      have HN : Hid (dblK (cAt c0 c1 c2 255) 1 = (db && (c0 % 17 == 0))) := Lib.hid (by rw [← HDB.out]; rfl)
      have HNS : Hid (shortK (cAt c0 c1 c2 255) 1 = sh ++ dgt (c0 % 16)) := Lib.hid (by rw [← HSH.out]; rfl)
      have HNL : Hid (longK (cAt c0 c1 c2 255) 1 = lo ++ (dgt (c0 / 16) ++ dgt (c0 % 16))) := Lib.hid (by rw [← HLO.out]; rfl)
      cases db
      all_goals
        go_wp2
        go_quiet (fail)
        go_wp2
        go_roundw
        case rel => exact ⟨1, by omega, rfl, by rw [HNS.out]; rfl, by rw [HNL.out]; rfl, by rw [HN.out]; simp, HRS, _, by first | rfl | exact World.drewN_drewN _ _ _⟩
        case measure => simp [intOf]
    · by_cases h0 : c1 < 0
      · have hr : r = [] := hr0 (fun h => by have h_ : 0 ≤ c1 ∧ c1 ≤ 255 := h 1 (by omega); omega)
        subst hr
        go_wp2
        go_ret
        exact ⟨_, rfl, Kd.R_nil _ _ _ _ _, pw_below_drewN (below_alloc (Below.refl _ _) _) _⟩
      by_cases h1 : 255 < c1
      · have hr : r = [] := hr0 (fun h => by have h_ : 0 ≤ c1 ∧ c1 ≤ 255 := h 1 (by omega); omega)
        subst hr
        go_wp2
        go_ret
        exact ⟨_, rfl, Kd.R_nil _ _ _ _ _, pw_below_drewN (below_alloc (Below.refl _ _) _) _⟩
      have b0 : 0 ≤ c1 := by omega
      have b1 : c1 ≤ 255 := by omega
      have f0 : (0 ≤ c1 % 16) = True := eq_true (by omega)
      have f1 : (c1 % 16 ≤ c1 % 16 + 1) = True := eq_true (by omega)
      have f2 : (c1 % 16 + 1 ≤ 16) = True := eq_true (by omega)
      have g0 : (0 ≤ c1 / 16) = True := eq_true (by omega)
      have g1 : (c1 / 16 ≤ c1 / 16 + 1) = True := eq_true (by omega)
      have g2 : (c1 / 16 + 1 ≤ 16) = True := eq_true (by omega)
      have hs0 : sh.size ≤ 10 := by have := HS.out; omega
      have hl0 : lo.size ≤ 10 := by have := HLg.out; omega
      have q1 : (9223372036854775807 < sh.size + ((c1 % 16 + 1).toNat - (c1 % 16).toNat)) = False := eq_false (by omega)
      have q2 : (9223372036854775807 < ((c1 / 16 + 1).toNat - (c1 / 16).toNat) + ((c1 % 16 + 1).toNat - (c1 % 16).toNat)) = False := eq_false (by omega)
      have q3 : (9223372036854775807 < lo.size + (((c1 / 16 + 1).toNat - (c1 / 16).toNat) + ((c1 % 16 + 1).toNat - (c1 % 16).toNat))) = False := eq_false (by omega)
      have HRS : Hid (rng (cAt c0 c1 c2 255) 2) := Lib.hid (rng_succ HR.out b0 b1)
      have HN : Hid (dblK (cAt c0 c1 c2 255) 2 = (db && (c1 % 17 == 0))) := Lib.hid (by rw [← HDB.out]; rfl)
      have HNS : Hid (shortK (cAt c0 c1 c2 255) 2 = sh ++ dgt (c1 % 16)) := Lib.hid (by rw [← HSH.out]; rfl)
      have HNL : Hid (longK (cAt c0 c1 c2 255) 2 = lo ++ (dgt (c1 / 16) ++ dgt (c1 % 16))) := Lib.hid (by rw [← HLO.out]; rfl)
      cases db
      all_goals
        go_wp2
        go_quiet (fail)
        go_wp2
        go_roundw
        case rel => exact ⟨2, by omega, rfl, by rw [HNS.out]; rfl, by rw [HNL.out]; rfl, by rw [HN.out]; simp, HRS, _, by first | rfl | exact World.drewN_drewN _ _ _⟩
        case measure => simp [intOf]
    · by_cases h0 : c2 < 0
      · have hr : r = [] := hr0 (fun h => by have h_ : 0 ≤ c2 ∧ c2 ≤ 255 := h 2 (by omega); omega)
        subst hr
        go_wp2
        go_ret
        exact ⟨_, rfl, Kd.R_nil _ _ _ _ _, pw_below_drewN (below_alloc (Below.refl _ _) _) _⟩
      by_cases h1 : 255 < c2
      · have hr : r = [] := hr0 (fun h => by have h_ : 0 ≤ c2 ∧ c2 ≤ 255 := h 2 (by omega); omega)
        subst hr
        go_wp2
        go_ret
        exact ⟨_, rfl, Kd.R_nil _ _ _ _ _, pw_below_drewN (below_alloc (Below.refl _ _) _) _⟩
      have b0 : 0 ≤ c2 := by omega
      have b1 : c2 ≤ 255 := by omega
      have f0 : (0 ≤ c2 % 16) = True := eq_true (by omega)
      have f1 : (c2 % 16 ≤ c2 % 16 + 1) = True := eq_true (by omega)
      have f2 : (c2 % 16 + 1 ≤ 16) = True := eq_true (by omega)
      have g0 : (0 ≤ c2 / 16) = True := eq_true (by omega)
      have g1 : (c2 / 16 ≤ c2 / 16 + 1) = True := eq_true (by omega)
      have g2 : (c2 / 16 + 1 ≤ 16) = True := eq_true (by omega)
      have hs0 : sh.size ≤ 10 := by have := HS.out; omega
      have hl0 : lo.size ≤ 10 := by have := HLg.out; omega
      have q1 : (9223372036854775807 < sh.size + ((c2 % 16 + 1).toNat - (c2 % 16).toNat)) = False := eq_false (by omega)
      have q2 : (9223372036854775807 < ((c2 / 16 + 1).toNat - (c2 / 16).toNat) + ((c2 % 16 + 1).toNat - (c2 % 16).toNat)) = False := eq_false (by omega)
      have q3 : (9223372036854775807 < lo.size + (((c2 / 16 + 1).toNat - (c2 / 16).toNat) + ((c2 % 16 + 1).toNat - (c2 % 16).toNat))) = False := eq_false (by omega)
      have HRS : Hid (rng (cAt c0 c1 c2 255) 3) := Lib.hid (rng_succ HR.out b0 b1)
      have HN : Hid (dblK (cAt c0 c1 c2 255) 3 = (db && (c2 % 17 == 0))) := Lib.hid (by rw [← HDB.out]; rfl)
      have HNS : Hid (shortK (cAt c0 c1 c2 255) 3 = sh ++ dgt (c2 % 16)) := Lib.hid (by rw [← HSH.out]; rfl)
      have HNL : Hid (longK (cAt c0 c1 c2 255) 3 = lo ++ (dgt (c2 / 16) ++ dgt (c2 % 16))) := Lib.hid (by rw [← HLO.out]; rfl)
      cases db
      all_goals
        go_wp2
        go_quiet (fail)
        go_wp2
        go_roundw
        case rel => exact ⟨3, by omega, rfl, by rw [HNS.out]; rfl, by rw [HNL.out]; rfl, by rw [HN.out]; simp, HRS, _, by first | rfl | exact World.drewN_drewN _ _ _⟩
        case measure => simp [intOf]
    · have hr := hr1 HR.out
      rw [HDB.out, HSH.out, HLO.out] at hr
      clear hr0 hr1
      have HRR := Lib.hid hr; clear hr
      have hl0 : lo.size ≤ 10 := by have := HLg.out; omega
      go_upto_region 14 with (fail)
      go_cut [9] (fun v9 wc => Aside0 (Kd.R Kd.string 9 wc w.heap.size (fun _ => True) v9 []) ∧ Aside0 (v9.ownBlock ≠ some w.heap.size) ∧ Aside0 (wc.heap[w.heap.size]? = some (.cells #[.int .i64 c0, .int .i64 c1, .int .i64 c2, .int .i64 255] 33 (0, 0))) ∧ Aside0 (Below w.heap.size w wc))
      case first =>
        go_wp2
        go_meet
        case rel => exact ⟨⟨Kd.R_nil _ _ _ _ _⟩, ⟨by simp [Value.ownBlock]⟩, ⟨blk_drewN (blk_new _ _) _⟩, ⟨pw_below_drewN (below_alloc (Below.refl _ _) _) _⟩⟩
      case rest =>
        obtain ⟨HO, HW, HK, HB⟩ := hcut
        cases db
        · go_upto_region 18 with (first | ((with_reducible refine gate_builtin (b := .append) (xs := #[.tmp 65, .tmp 67]) rfl ?_); at_builtin; refine Kd.R_append Kd.string (w0 := w) w.heap.size rfl (.tmp 65) (.tmp 67) 23 9 (.string ⟨#[]⟩) 16 rfl Tryz.underlying23 info9 rfl (by decide) (by omega) u9 [] lo [.string lo] (fun _ => True) (fun _ => False) rfl rfl ?aP (fun _ hk => hk.elim) ?aF ?aO ?aB ?aS ?aL ?_; (case aP => exact rfl); (case aB => exact (by repeat (first | (with_reducible first | exact HB.out | apply below_alloc | apply pw_below_drewN | apply below_drew1) | exact HB.out))); (case aF => exact (fun _ _ => trivial)); (case aO => exact (by (with_reducible repeat (first | apply Kd.R_alloc | apply Kd.R_drewN | apply Kd.R_drew)); exact HO.out)); (case aS => exact (below_size (by repeat (first | (with_reducible first | exact HB.out | apply below_alloc | apply pw_below_drewN | apply below_drew1) | exact HB.out)))); (case aL => simp); intro v1 wd ho hb hg hat; have n0_ := Aside0.mk ((hg.block w.heap.size (blk_lt HK.out) (Ne.symm HW.out)).trans HK.out); have n1_ : Aside0 (v1.ownBlock ≠ some w.heap.size) := ⟨own_not HW.out hat (blk_lt HK.out)⟩; have n2_ := Aside0.mk hb; have n3_ := Aside0.mk ho; clear HO HB HK HW; have HK := n0_; have HW := n1_; have HB := n2_; have HO := n3_; clear n0_ n1_ n2_ n3_ ho hb hg hat))
          obtain ⟨xs, hxs⟩ : ∃ xs : List ByteArray, xs = [] ++ [lo] := ⟨_, rfl⟩
          have HRX : Aside0 (r = xs ++ L) := ⟨by rw [hxs]; simpa using HRR.out⟩
          have hxl : xs.length ≤ 2 := by rw [hxs]; simp
          rw [← hxs] at HO
          clear hxs
          go_wp2_with (first | ((with_reducible refine gate_callee (f := 25) rfl ?_); refine goesL_ (some 69) rfl rfl Tryz.func25 (by kernel_rfl) rfl #[] rfl (by (try simp only [List.map_toArray, List.map_cons, List.map_nil]); first | done | rfl) ?_; (with_reducible refine (colour_Names.calls kN N _ ?side1 HNf.out).mono ?_); (case side1 => first | exact hL | exact LaidW.below hL (by repeat (first | (with_reducible first | exact HB.out | apply below_alloc | apply pw_below_drewN | apply below_drew1) | exact HB.out))); rintro e w2 ⟨v165, rfl, ho0, hb⟩; refine ⟨_, rfl, ?_⟩; have n0_ := Aside0.mk (Kd.R_lower (Kd.R_mono (Kd.R_bound ho0) (fun k hk => after_ne (Kd.R_lt (by (with_reducible repeat (first | apply Kd.R_alloc | apply Kd.R_drewN | apply Kd.R_drew)); exact HO.out)) k hk.2.1)) (below_size (by repeat (first | (with_reducible first | exact HB.out | apply below_alloc | apply pw_below_drewN | apply below_drew1) | exact HB.out))) : Kd.R Kd.string 9 w2 w.heap.size (fun k_ => some k_ ≠ v1.ownBlock) v165 N); have n1_ := Aside0.mk (below_step (by repeat (first | (with_reducible first | exact HB.out | apply below_alloc | apply pw_below_drewN | apply below_drew1) | exact HB.out)) hb); have n2_ := Aside0.mk (Kd.R_below (by (with_reducible repeat (first | apply Kd.R_alloc | apply Kd.R_drewN | apply Kd.R_drew)); exact HO.out) hb); have n3_ := Aside0.mk (blk_below (g := w.heap.size) (o := .cells #[.int .i64 c0, .int .i64 c1, .int .i64 c2, .int .i64 255] 33 (0, 0)) (by (with_reducible repeat (first | refine blk_drewN ?_ _ | refine blk_drew ?_ | refine blk_alloc ?_ _)); exact HK.out) hb); clear HB HO HK; have HNR := n0_; have HB := n1_; have HO := n2_; have HK := n3_; clear n0_ n1_ n2_ n3_ ho0 hb; obtain ⟨AN, cN, eN⟩ := Kd.R_slice HNR.out; subst eN))
          go_loopw [9, 71] (fun v9 i wr => ∃ j : Nat, j ≤ N.length ∧ i = .int .i64 j ∧ Aside0 (Kd.R Kd.string 9 wr w.heap.size (fun _ => True) v9 (xs ++ LK N P4 c0 c1 c2 j)) ∧ Aside0 (v9.ownBlock ≠ some w.heap.size) ∧ Aside0 (Kd.R Kd.string 9 wr w.heap.size (fun k_ => some k_ ≠ v9.ownBlock) (.slice AN N.length cN) N) ∧ Aside0 (wr.heap[w.heap.size]? = some (.cells #[.int .i64 c0, .int .i64 c1, .int .i64 c2, .int .i64 255] 33 (0, 0))) ∧ Aside0 (Below w.heap.size w wr)) (fun _ i _ => N.length - (intOf i).toNat)
          case atStart => exact ⟨0, by omega, rfl, ⟨by simpa [LK] using HO.out⟩, HW, HNR, HK, HB⟩
          case round =>
            obtain ⟨j, hj, rfl, HO, HW, HNR, HK, HB⟩ := hrel
            by_cases c : j < N.length
            · obtain ⟨kj, hkj⟩ := HPf.out j c
              generalize hp : P4 j = p at hkj
              obtain ⟨p0, p1, p2, p3, p4⟩ := p
              have ci : ((j : Int) < (N.length : Int)) = True := eq_true (by omega)
              have cd : decide ((j : Int) < (N.length : Int)) = true := decide_eq_true (by omega)
              obtain ⟨ad, e167, hx167⟩ := Kd.at_string (Kd.R_reads' HNR.out).2.2 j (by omega) (by omega)
              cases e167
              simp only [Int.toNat_natCast] at hx167
              have p167 : (0 ≤ (j : Int)) = True := eq_true (by omega)
              go_upto_region 22 with (first | ((with_reducible refine gate_callee (f := 10) rfl ?_); refine goesL_ (some 77) rfl rfl Tryz.func10 (by kernel_rfl) rfl #[.string (rdOf ByteArray.empty N j)] rfl (by (try simp only [List.map_toArray, List.map_cons, List.map_nil]); first | done | rfl) ?_; (with_reducible refine (colour_Named.calls kj _ p0 p1 p2 p3 p4 _ ?side1 hkj).mono ?_); (case side1 => first | exact hL | exact LaidW.below hL (by repeat (first | (with_reducible first | exact HB.out | apply below_alloc | apply pw_below_drewN | apply below_drew1) | exact HB.out))); rintro e w2 ⟨rfl, hb⟩; refine ⟨_, rfl, ?_⟩; have n0_ := Aside0.mk (Kd.R_below (by (with_reducible repeat (first | apply Kd.R_alloc | apply Kd.R_drewN | apply Kd.R_drew)); exact HNR.out) hb); have n1_ := Aside0.mk (below_step (by repeat (first | (with_reducible first | exact HB.out | apply below_alloc | apply pw_below_drewN | apply below_drew1) | exact HB.out)) hb); have n2_ := Aside0.mk (Kd.R_below (by (with_reducible repeat (first | apply Kd.R_alloc | apply Kd.R_drewN | apply Kd.R_drew)); exact HO.out) hb); have n3_ := Aside0.mk (blk_below (g := w.heap.size) (o := .cells #[.int .i64 c0, .int .i64 c1, .int .i64 c2, .int .i64 255] 33 (0, 0)) (by (with_reducible repeat (first | refine blk_drewN ?_ _ | refine blk_drew ?_ | refine blk_alloc ?_ _)); exact HK.out) hb); clear HB HO HK HNR; have HNR := n0_; have HB := n1_; have HO := n2_; have HK := n3_; clear n0_ n1_ n2_ n3_ hb; have hlt_ := blk_lt HK.out; have hcz0 : w2.cell? ⟨w.heap.size, 0, none⟩ = some (.int .i64 c0) := (blk_cell HK.out 0).trans rfl; have hcz1 : w2.cell? ⟨w.heap.size, 1, none⟩ = some (.int .i64 c1) := (blk_cell HK.out 1).trans rfl; have hcz2 : w2.cell? ⟨w.heap.size, 2, none⟩ = some (.int .i64 c2) := (blk_cell HK.out 2).trans rfl; have hcz3 : w2.cell? ⟨w.heap.size, 3, none⟩ = some (.int .i64 255) := (blk_cell HK.out 3).trans rfl))
              cases hq : (p0 == c0 && (p1 == c1 && (p2 == c2 && (p3 == 255))))
              · have EL_ : Aside0 (xs ++ LK N P4 c0 c1 c2 (j + 1) = xs ++ LK N P4 c0 c1 c2 j) := ⟨by simp only [LK, hp, hq]; simp⟩
                go_wp2
                go_roundw
                case rel => exact ⟨j + 1, by omega, (by first | rfl | (refine congrArg (Value.int .i64) ?_; first | omega | (unfold wrap64; omega))), ⟨(by rw [EL_.out]; exact (by (with_reducible repeat (first | apply Kd.R_alloc | apply Kd.R_drewN | apply Kd.R_drew)); exact HO.out))⟩, HW, ⟨(by (with_reducible repeat (first | apply Kd.R_alloc | apply Kd.R_drewN | apply Kd.R_drew)); exact HNR.out)⟩, ⟨(by (with_reducible repeat (first | refine blk_drewN ?_ _ | refine blk_drew ?_ | refine blk_alloc ?_ _)); exact HK.out)⟩, ⟨(by repeat (first | (with_reducible first | exact HB.out | apply below_alloc | apply pw_below_drewN | apply below_drew1) | exact HB.out))⟩⟩
                case measure => simp only [intOf]; first | omega | (unfold wrap64; omega)
              · have EL_ : Aside0 (xs ++ LK N P4 c0 c1 c2 (j + 1) = (xs ++ LK N P4 c0 c1 c2 j) ++ [(rdOf ByteArray.empty N j)]) := ⟨by simp only [LK, hp, hq]; simp⟩
                go_upto_region 23 with (fail)
                generalize hwx : w2.alloc (.cells #[.int .i64 p0, .int .i64 p1, .int .i64 p2, .int .i64 p3] 33) = wx
                have n0_ : Aside0 (Kd.R Kd.string 9 wx w.heap.size (fun _ => True) u9 (xs ++ LK N P4 c0 c1 c2 j)) := ⟨by rw [← hwx]; exact (by (with_reducible repeat (first | apply Kd.R_alloc | apply Kd.R_drewN | apply Kd.R_drew)); exact HO.out)⟩
                have n1_ : Aside0 (Kd.R Kd.string 9 wx w.heap.size (fun k_ => some k_ ≠ u9.ownBlock) (.slice (some ad) N.length cN) N) := ⟨by rw [← hwx]; exact (by (with_reducible repeat (first | apply Kd.R_alloc | apply Kd.R_drewN | apply Kd.R_drew)); exact HNR.out)⟩
                have n2_ : Aside0 (wx.heap[w.heap.size]? = some (.cells #[.int .i64 c0, .int .i64 c1, .int .i64 c2, .int .i64 255] 33 (0, 0))) := ⟨by rw [← hwx]; exact (by (with_reducible repeat (first | refine blk_drewN ?_ _ | refine blk_drew ?_ | refine blk_alloc ?_ _)); exact HK.out)⟩
                have n3_ : Aside0 (Below w.heap.size w wx) := ⟨by rw [← hwx]; exact (by repeat (first | (with_reducible first | exact HB.out | apply below_alloc | apply pw_below_drewN | apply below_drew1) | exact HB.out))⟩
                clear hwx hcz0 hcz1 hcz2 hcz3 hlt_ HO HNR HK HB
                have HO := n0_; have HNR := n1_; have HK := n2_; have HB := n3_
                clear n0_ n1_ n2_ n3_
                go_wp2_with (first | ((with_reducible refine gate_builtin (b := .append) (xs := #[.tmp 83, .tmp 85]) rfl ?_); at_builtin; refine Kd.R_append Kd.string (w0 := w) w.heap.size rfl (.tmp 83) (.tmp 85) 23 9 (.string ⟨#[]⟩) 16 rfl Tryz.underlying23 info9 rfl (by decide) (by omega) u9 (xs ++ LK N P4 c0 c1 c2 j) (rdOf ByteArray.empty N j) [.string (rdOf ByteArray.empty N j)] (fun _ => True) (fun _ => False) rfl rfl ?aP (fun _ hk => hk.elim) ?aF ?aO ?aB ?aS ?aL ?_; (case aP => exact rfl); (case aB => exact (by repeat (first | (with_reducible first | exact HB.out | apply below_alloc | apply pw_below_drewN | apply below_drew1) | exact HB.out))); (case aF => exact (fun _ _ => trivial)); (case aO => exact (by (with_reducible repeat (first | apply Kd.R_alloc | apply Kd.R_drewN | apply Kd.R_drew)); exact HO.out)); (case aS => exact (below_size (by repeat (first | (with_reducible first | exact HB.out | apply below_alloc | apply pw_below_drewN | apply below_drew1) | exact HB.out)))); (case aL => have := LK_len N P4 c0 c1 c2 j; rw [List.length_append]; omega); intro v1 wd ho hb hg hat; have n0_ := Aside0.mk ((hg.block w.heap.size (blk_lt (by (with_reducible repeat (first | refine blk_drewN ?_ _ | refine blk_drew ?_ | refine blk_alloc ?_ _)); exact HK.out)) (Ne.symm HW.out)).trans (by (with_reducible repeat (first | refine blk_drewN ?_ _ | refine blk_drew ?_ | refine blk_alloc ?_ _)); exact HK.out)); have n1_ : Aside0 (v1.ownBlock ≠ some w.heap.size) := ⟨own_not HW.out hat (blk_lt (by (with_reducible repeat (first | refine blk_drewN ?_ _ | refine blk_drew ?_ | refine blk_alloc ?_ _)); exact HK.out))⟩; have n4_ := Aside0.mk (Kd.R_mono (Kd.R_after (ok := (fun _ => True)) (by (with_reducible repeat (first | apply Kd.R_alloc | apply Kd.R_drewN | apply Kd.R_drew)); exact Kd.R_mono HNR.out (fun _ hk => ⟨trivial, hk⟩)) hg hat) (fun _ hk => hk.2)); have n2_ := Aside0.mk hb; have n3_ := Aside0.mk ho; clear HO HB HK HW HNR; have HK := n0_; have HW := n1_; have HB := n2_; have HO := n3_; have HNR := n4_; clear n0_ n1_ n2_ n3_ n4_ ho hb hg hat))
                go_roundw
                case rel => exact ⟨j + 1, by omega, (by first | rfl | (refine congrArg (Value.int .i64) ?_; first | omega | (unfold wrap64; omega))), ⟨(by rw [EL_.out]; exact (by (with_reducible repeat (first | apply Kd.R_alloc | apply Kd.R_drewN | apply Kd.R_drew)); exact HO.out))⟩, HW, ⟨(by (with_reducible repeat (first | apply Kd.R_alloc | apply Kd.R_drewN | apply Kd.R_drew)); exact HNR.out)⟩, ⟨(by (with_reducible repeat (first | refine blk_drewN ?_ _ | refine blk_drew ?_ | refine blk_alloc ?_ _)); exact HK.out)⟩, ⟨(by repeat (first | (with_reducible first | exact HB.out | apply below_alloc | apply pw_below_drewN | apply below_drew1) | exact HB.out))⟩⟩
                case measure => simp only [intOf]; first | omega | (unfold wrap64; omega)
            · have cd : decide ((j : Int) < (N.length : Int)) = false := decide_eq_false (by omega)
              have ej : j = N.length := by omega
              subst ej
              have hr := HRX.out
              go_wp2
              go_ret
              exact ⟨_, rfl, by rw [hr, HLf.out]; exact HO.out, HB.out⟩
        · go_upto_region 18 with (first | (first | ((with_reducible refine gate_builtin (b := .append) (xs := #[.tmp 61, .tmp 63]) rfl ?_); at_builtin; refine Kd.R_append Kd.string (w0 := w) w.heap.size rfl (.tmp 61) (.tmp 63) 23 9 (.string ⟨#[]⟩) 16 rfl Tryz.underlying23 info9 rfl (by decide) (by omega) u9 [] sh [.string sh] (fun _ => True) (fun _ => False) rfl rfl ?aP (fun _ hk => hk.elim) ?aF ?aO ?aB ?aS ?aL ?_; (case aP => exact rfl); (case aB => exact (by repeat (first | (with_reducible first | exact HB.out | apply below_alloc | apply pw_below_drewN | apply below_drew1) | exact HB.out))); (case aF => exact (fun _ _ => trivial)); (case aO => exact (by (with_reducible repeat (first | apply Kd.R_alloc | apply Kd.R_drewN | apply Kd.R_drew)); exact HO.out)); (case aS => exact (below_size (by repeat (first | (with_reducible first | exact HB.out | apply below_alloc | apply pw_below_drewN | apply below_drew1) | exact HB.out)))); (case aL => simp); intro v1 wd ho hb hg hat; have n0_ := Aside0.mk ((hg.block w.heap.size (blk_lt HK.out) (Ne.symm HW.out)).trans HK.out); have n1_ : Aside0 (v1.ownBlock ≠ some w.heap.size) := ⟨own_not HW.out hat (blk_lt HK.out)⟩; have n2_ := Aside0.mk hb; have n3_ := Aside0.mk ho; clear HO HB HK HW; have HK := n0_; have HW := n1_; have HB := n2_; have HO := n3_; clear n0_ n1_ n2_ n3_ ho hb hg hat)) | (first | ((with_reducible refine gate_builtin (b := .append) (xs := #[.tmp 65, .tmp 67]) rfl ?_); at_builtin; refine Kd.R_append Kd.string (w0 := w) w.heap.size rfl (.tmp 65) (.tmp 67) 23 9 (.string ⟨#[]⟩) 16 rfl Tryz.underlying23 info9 rfl (by decide) (by omega) _ [sh] lo [.string lo] (fun _ => True) (fun _ => False) rfl rfl ?aP (fun _ hk => hk.elim) ?aF ?aO ?aB ?aS ?aL ?_; (case aP => exact rfl); (case aB => exact (by repeat (first | (with_reducible first | exact HB.out | apply below_alloc | apply pw_below_drewN | apply below_drew1) | exact HB.out))); (case aF => exact (fun _ _ => trivial)); (case aO => exact (by (with_reducible repeat (first | apply Kd.R_alloc | apply Kd.R_drewN | apply Kd.R_drew)); exact HO.out)); (case aS => exact (below_size (by repeat (first | (with_reducible first | exact HB.out | apply below_alloc | apply pw_below_drewN | apply below_drew1) | exact HB.out)))); (case aL => simp); intro v1 wd ho hb hg hat; have n0_ := Aside0.mk ((hg.block w.heap.size (blk_lt HK.out) (Ne.symm HW.out)).trans HK.out); have n1_ : Aside0 (v1.ownBlock ≠ some w.heap.size) := ⟨own_not HW.out hat (blk_lt HK.out)⟩; have n2_ := Aside0.mk hb; have n3_ := Aside0.mk ho; clear HO HB HK HW; have HK := n0_; have HW := n1_; have HB := n2_; have HO := n3_; clear n0_ n1_ n2_ n3_ ho hb hg hat)))
          obtain ⟨xs, hxs⟩ : ∃ xs : List ByteArray, xs = [sh] ++ [lo] := ⟨_, rfl⟩
          have HRX : Aside0 (r = xs ++ L) := ⟨by rw [hxs]; simpa using HRR.out⟩
          have hxl : xs.length ≤ 2 := by rw [hxs]; simp
          rw [← hxs] at HO
          clear hxs
          go_wp2_with (first | ((with_reducible refine gate_callee (f := 25) rfl ?_); refine goesL_ (some 69) rfl rfl Tryz.func25 (by kernel_rfl) rfl #[] rfl (by (try simp only [List.map_toArray, List.map_cons, List.map_nil]); first | done | rfl) ?_; (with_reducible refine (colour_Names.calls kN N _ ?side1 HNf.out).mono ?_); (case side1 => first | exact hL | exact LaidW.below hL (by repeat (first | (with_reducible first | exact HB.out | apply below_alloc | apply pw_below_drewN | apply below_drew1) | exact HB.out))); rintro e w2 ⟨v165, rfl, ho0, hb⟩; refine ⟨_, rfl, ?_⟩; have n0_ := Aside0.mk (Kd.R_lower (Kd.R_mono (Kd.R_bound ho0) (fun k hk => after_ne (Kd.R_lt (by (with_reducible repeat (first | apply Kd.R_alloc | apply Kd.R_drewN | apply Kd.R_drew)); exact HO.out)) k hk.2.1)) (below_size (by repeat (first | (with_reducible first | exact HB.out | apply below_alloc | apply pw_below_drewN | apply below_drew1) | exact HB.out))) : Kd.R Kd.string 9 w2 w.heap.size (fun k_ => some k_ ≠ v1.ownBlock) v165 N); have n1_ := Aside0.mk (below_step (by repeat (first | (with_reducible first | exact HB.out | apply below_alloc | apply pw_below_drewN | apply below_drew1) | exact HB.out)) hb); have n2_ := Aside0.mk (Kd.R_below (by (with_reducible repeat (first | apply Kd.R_alloc | apply Kd.R_drewN | apply Kd.R_drew)); exact HO.out) hb); have n3_ := Aside0.mk (blk_below (g := w.heap.size) (o := .cells #[.int .i64 c0, .int .i64 c1, .int .i64 c2, .int .i64 255] 33 (0, 0)) (by (with_reducible repeat (first | refine blk_drewN ?_ _ | refine blk_drew ?_ | refine blk_alloc ?_ _)); exact HK.out) hb); clear HB HO HK; have HNR := n0_; have HB := n1_; have HO := n2_; have HK := n3_; clear n0_ n1_ n2_ n3_ ho0 hb; obtain ⟨AN, cN, eN⟩ := Kd.R_slice HNR.out; subst eN))
          go_loopw [9, 71] (fun v9 i wr => ∃ j : Nat, j ≤ N.length ∧ i = .int .i64 j ∧ Aside0 (Kd.R Kd.string 9 wr w.heap.size (fun _ => True) v9 (xs ++ LK N P4 c0 c1 c2 j)) ∧ Aside0 (v9.ownBlock ≠ some w.heap.size) ∧ Aside0 (Kd.R Kd.string 9 wr w.heap.size (fun k_ => some k_ ≠ v9.ownBlock) (.slice AN N.length cN) N) ∧ Aside0 (wr.heap[w.heap.size]? = some (.cells #[.int .i64 c0, .int .i64 c1, .int .i64 c2, .int .i64 255] 33 (0, 0))) ∧ Aside0 (Below w.heap.size w wr)) (fun _ i _ => N.length - (intOf i).toNat)
          case atStart => exact ⟨0, by omega, rfl, ⟨by simpa [LK] using HO.out⟩, HW, HNR, HK, HB⟩
          case round =>
            obtain ⟨j, hj, rfl, HO, HW, HNR, HK, HB⟩ := hrel
            by_cases c : j < N.length
            · obtain ⟨kj, hkj⟩ := HPf.out j c
              generalize hp : P4 j = p at hkj
              obtain ⟨p0, p1, p2, p3, p4⟩ := p
              have ci : ((j : Int) < (N.length : Int)) = True := eq_true (by omega)
              have cd : decide ((j : Int) < (N.length : Int)) = true := decide_eq_true (by omega)
              obtain ⟨ad, e167, hx167⟩ := Kd.at_string (Kd.R_reads' HNR.out).2.2 j (by omega) (by omega)
              cases e167
              simp only [Int.toNat_natCast] at hx167
              have p167 : (0 ≤ (j : Int)) = True := eq_true (by omega)
              go_upto_region 22 with (first | ((with_reducible refine gate_callee (f := 10) rfl ?_); refine goesL_ (some 77) rfl rfl Tryz.func10 (by kernel_rfl) rfl #[.string (rdOf ByteArray.empty N j)] rfl (by (try simp only [List.map_toArray, List.map_cons, List.map_nil]); first | done | rfl) ?_; (with_reducible refine (colour_Named.calls kj _ p0 p1 p2 p3 p4 _ ?side1 hkj).mono ?_); (case side1 => first | exact hL | exact LaidW.below hL (by repeat (first | (with_reducible first | exact HB.out | apply below_alloc | apply pw_below_drewN | apply below_drew1) | exact HB.out))); rintro e w2 ⟨rfl, hb⟩; refine ⟨_, rfl, ?_⟩; have n0_ := Aside0.mk (Kd.R_below (by (with_reducible repeat (first | apply Kd.R_alloc | apply Kd.R_drewN | apply Kd.R_drew)); exact HNR.out) hb); have n1_ := Aside0.mk (below_step (by repeat (first | (with_reducible first | exact HB.out | apply below_alloc | apply pw_below_drewN | apply below_drew1) | exact HB.out)) hb); have n2_ := Aside0.mk (Kd.R_below (by (with_reducible repeat (first | apply Kd.R_alloc | apply Kd.R_drewN | apply Kd.R_drew)); exact HO.out) hb); have n3_ := Aside0.mk (blk_below (g := w.heap.size) (o := .cells #[.int .i64 c0, .int .i64 c1, .int .i64 c2, .int .i64 255] 33 (0, 0)) (by (with_reducible repeat (first | refine blk_drewN ?_ _ | refine blk_drew ?_ | refine blk_alloc ?_ _)); exact HK.out) hb); clear HB HO HK HNR; have HNR := n0_; have HB := n1_; have HO := n2_; have HK := n3_; clear n0_ n1_ n2_ n3_ hb; have hlt_ := blk_lt HK.out; have hcz0 : w2.cell? ⟨w.heap.size, 0, none⟩ = some (.int .i64 c0) := (blk_cell HK.out 0).trans rfl; have hcz1 : w2.cell? ⟨w.heap.size, 1, none⟩ = some (.int .i64 c1) := (blk_cell HK.out 1).trans rfl; have hcz2 : w2.cell? ⟨w.heap.size, 2, none⟩ = some (.int .i64 c2) := (blk_cell HK.out 2).trans rfl; have hcz3 : w2.cell? ⟨w.heap.size, 3, none⟩ = some (.int .i64 255) := (blk_cell HK.out 3).trans rfl))
              cases hq : (p0 == c0 && (p1 == c1 && (p2 == c2 && (p3 == 255))))
              · have EL_ : Aside0 (xs ++ LK N P4 c0 c1 c2 (j + 1) = xs ++ LK N P4 c0 c1 c2 j) := ⟨by simp only [LK, hp, hq]; simp⟩
                go_wp2
                go_roundw
                case rel => exact ⟨j + 1, by omega, (by first | rfl | (refine congrArg (Value.int .i64) ?_; first | omega | (unfold wrap64; omega))), ⟨(by rw [EL_.out]; exact (by (with_reducible repeat (first | apply Kd.R_alloc | apply Kd.R_drewN | apply Kd.R_drew)); exact HO.out))⟩, HW, ⟨(by (with_reducible repeat (first | apply Kd.R_alloc | apply Kd.R_drewN | apply Kd.R_drew)); exact HNR.out)⟩, ⟨(by (with_reducible repeat (first | refine blk_drewN ?_ _ | refine blk_drew ?_ | refine blk_alloc ?_ _)); exact HK.out)⟩, ⟨(by repeat (first | (with_reducible first | exact HB.out | apply below_alloc | apply pw_below_drewN | apply below_drew1) | exact HB.out))⟩⟩
                case measure => simp only [intOf]; first | omega | (unfold wrap64; omega)
              · have EL_ : Aside0 (xs ++ LK N P4 c0 c1 c2 (j + 1) = (xs ++ LK N P4 c0 c1 c2 j) ++ [(rdOf ByteArray.empty N j)]) := ⟨by simp only [LK, hp, hq]; simp⟩
                go_upto_region 23 with (fail)
                generalize hwx : w2.alloc (.cells #[.int .i64 p0, .int .i64 p1, .int .i64 p2, .int .i64 p3] 33) = wx
                have n0_ : Aside0 (Kd.R Kd.string 9 wx w.heap.size (fun _ => True) u9 (xs ++ LK N P4 c0 c1 c2 j)) := ⟨by rw [← hwx]; exact (by (with_reducible repeat (first | apply Kd.R_alloc | apply Kd.R_drewN | apply Kd.R_drew)); exact HO.out)⟩
                have n1_ : Aside0 (Kd.R Kd.string 9 wx w.heap.size (fun k_ => some k_ ≠ u9.ownBlock) (.slice (some ad) N.length cN) N) := ⟨by rw [← hwx]; exact (by (with_reducible repeat (first | apply Kd.R_alloc | apply Kd.R_drewN | apply Kd.R_drew)); exact HNR.out)⟩
                have n2_ : Aside0 (wx.heap[w.heap.size]? = some (.cells #[.int .i64 c0, .int .i64 c1, .int .i64 c2, .int .i64 255] 33 (0, 0))) := ⟨by rw [← hwx]; exact (by (with_reducible repeat (first | refine blk_drewN ?_ _ | refine blk_drew ?_ | refine blk_alloc ?_ _)); exact HK.out)⟩
                have n3_ : Aside0 (Below w.heap.size w wx) := ⟨by rw [← hwx]; exact (by repeat (first | (with_reducible first | exact HB.out | apply below_alloc | apply pw_below_drewN | apply below_drew1) | exact HB.out))⟩
                clear hwx hcz0 hcz1 hcz2 hcz3 hlt_ HO HNR HK HB
                have HO := n0_; have HNR := n1_; have HK := n2_; have HB := n3_
                clear n0_ n1_ n2_ n3_
                go_wp2_with (first | ((with_reducible refine gate_builtin (b := .append) (xs := #[.tmp 83, .tmp 85]) rfl ?_); at_builtin; refine Kd.R_append Kd.string (w0 := w) w.heap.size rfl (.tmp 83) (.tmp 85) 23 9 (.string ⟨#[]⟩) 16 rfl Tryz.underlying23 info9 rfl (by decide) (by omega) u9 (xs ++ LK N P4 c0 c1 c2 j) (rdOf ByteArray.empty N j) [.string (rdOf ByteArray.empty N j)] (fun _ => True) (fun _ => False) rfl rfl ?aP (fun _ hk => hk.elim) ?aF ?aO ?aB ?aS ?aL ?_; (case aP => exact rfl); (case aB => exact (by repeat (first | (with_reducible first | exact HB.out | apply below_alloc | apply pw_below_drewN | apply below_drew1) | exact HB.out))); (case aF => exact (fun _ _ => trivial)); (case aO => exact (by (with_reducible repeat (first | apply Kd.R_alloc | apply Kd.R_drewN | apply Kd.R_drew)); exact HO.out)); (case aS => exact (below_size (by repeat (first | (with_reducible first | exact HB.out | apply below_alloc | apply pw_below_drewN | apply below_drew1) | exact HB.out)))); (case aL => have := LK_len N P4 c0 c1 c2 j; rw [List.length_append]; omega); intro v1 wd ho hb hg hat; have n0_ := Aside0.mk ((hg.block w.heap.size (blk_lt (by (with_reducible repeat (first | refine blk_drewN ?_ _ | refine blk_drew ?_ | refine blk_alloc ?_ _)); exact HK.out)) (Ne.symm HW.out)).trans (by (with_reducible repeat (first | refine blk_drewN ?_ _ | refine blk_drew ?_ | refine blk_alloc ?_ _)); exact HK.out)); have n1_ : Aside0 (v1.ownBlock ≠ some w.heap.size) := ⟨own_not HW.out hat (blk_lt (by (with_reducible repeat (first | refine blk_drewN ?_ _ | refine blk_drew ?_ | refine blk_alloc ?_ _)); exact HK.out))⟩; have n4_ := Aside0.mk (Kd.R_mono (Kd.R_after (ok := (fun _ => True)) (by (with_reducible repeat (first | apply Kd.R_alloc | apply Kd.R_drewN | apply Kd.R_drew)); exact Kd.R_mono HNR.out (fun _ hk => ⟨trivial, hk⟩)) hg hat) (fun _ hk => hk.2)); have n2_ := Aside0.mk hb; have n3_ := Aside0.mk ho; clear HO HB HK HW HNR; have HK := n0_; have HW := n1_; have HB := n2_; have HO := n3_; have HNR := n4_; clear n0_ n1_ n2_ n3_ n4_ ho hb hg hat))
                go_roundw
                case rel => exact ⟨j + 1, by omega, (by first | rfl | (refine congrArg (Value.int .i64) ?_; first | omega | (unfold wrap64; omega))), ⟨(by rw [EL_.out]; exact (by (with_reducible repeat (first | apply Kd.R_alloc | apply Kd.R_drewN | apply Kd.R_drew)); exact HO.out))⟩, HW, ⟨(by (with_reducible repeat (first | apply Kd.R_alloc | apply Kd.R_drewN | apply Kd.R_drew)); exact HNR.out)⟩, ⟨(by (with_reducible repeat (first | refine blk_drewN ?_ _ | refine blk_drew ?_ | refine blk_alloc ?_ _)); exact HK.out)⟩, ⟨(by repeat (first | (with_reducible first | exact HB.out | apply below_alloc | apply pw_below_drewN | apply below_drew1) | exact HB.out))⟩⟩
                case measure => simp only [intOf]; first | omega | (unfold wrap64; omega)
            · have cd : decide ((j : Int) < (N.length : Int)) = false := decide_eq_false (by omega)
              have ej : j = N.length := by omega
              subst ej
              have hr := HRX.out
              go_wp2
              go_ret
              exact ⟨_, rfl, by rw [hr, HLf.out]; exact HO.out, HB.out⟩
def LK4 (N : List ByteArray) (P4 : Nat → Int × Int × Int × Int × Bool) (c0 c1 c2 c3 : Int) : Nat → List ByteArray
  | 0 => []
  | j + 1 => if ((P4 j).1 == c0 && ((P4 j).2.1 == c1 && ((P4 j).2.2.1 == c2 && ((P4 j).2.2.2.1 == c3)))) = true then LK4 N P4 c0 c1 c2 c3 j ++ [rdOf ByteArray.empty N j] else LK4 N P4 c0 c1 c2 c3 j
def okN (N : List ByteArray) : Prop := N.length ≤ 100000 ∧ ∀ j : Nat, j < N.length → (colour_Named.f 400 (rdOf ByteArray.empty N j)).isSome = true
instance (N : List ByteArray) : Decidable (okN N) := by unfold okN; infer_instance
def p4 (N : List ByteArray) (j : Nat) : Int × Int × Int × Int × Bool := (colour_Named.f 400 (rdOf ByteArray.empty N j)).getD (0, 0, 0, 0, false)
def rngb (c : Nat → Int) (k : Nat) : Bool := (List.range k).all fun j => decide (0 ≤ c j) && decide (c j ≤ 255)
theorem rngb_iff (c : Nat → Int) (k : Nat) : rngb c k = true ↔ rng c k := by
  simp [rngb, rng, List.all_eq_true]
def colour_Spell.n (c3 : Int) : Nat := if c3 = 255 then 3 else 4
def colour_Spell.f (c0 c1 c2 c3 : Int) : Option (List ByteArray) :=
  if c3 = 255 then (colour_Names.f 400).bind fun N => if okN N then some (if rngb (cAt c0 c1 c2 c3) (colour_Spell.n c3) = true then (if dblK (cAt c0 c1 c2 c3) (colour_Spell.n c3) = true then [shortK (cAt c0 c1 c2 c3) (colour_Spell.n c3)] else []) ++ [longK (cAt c0 c1 c2 c3) (colour_Spell.n c3)] ++ LK4 N (p4 N) c0 c1 c2 c3 N.length else []) else none else none
theorem p4_of {N : List ByteArray} (h : okN N) : Aside0 (∀ j : Nat, j < N.length → ∃ k, colour_Named.f k (rdOf ByteArray.empty N j) = some (p4 N j)) := ⟨fun j hj => ⟨400, by
  have := h.2 j hj
  unfold p4
  cases hh : colour_Named.f 400 (rdOf ByteArray.empty N j) with
  | none => rw [hh] at this; cases this
  | some v => rfl⟩⟩
theorem LK4_255 (N : List ByteArray) (P4 : Nat → Int × Int × Int × Int × Bool) (c0 c1 c2 : Int) : ∀ j, LK4 N P4 c0 c1 c2 255 j = LK N P4 c0 c1 c2 j
  | 0 => rfl
  | j + 1 => by simp only [LK4, LK, LK4_255 N P4 c0 c1 c2 j]
theorem colour_Spell.calls (c0 c1 c2 c3 : Int) (r : List ByteArray) (w : World) (hL : LaidW w) (h : colour_Spell.f c0 c1 c2 c3 = some r) :
    Calls Tryz.prog 9 #[.agg #[.int .i64 c0, .int .i64 c1, .int .i64 c2, .int .i64 c3]] w fun e w' => ∃ v0_ : Value, e = .returned (v0_) ∧ Kd.R Kd.string 9 w' w.heap.size (fun _ => True) v0_ r ∧ Below w.heap.size w w' := by
  unfold colour_Spell.f at h
  by_cases h3 : c3 = 255
  case neg => rw [if_neg h3] at h; cases h
  rw [if_pos h3] at h
  obtain ⟨N, hN, h⟩ := Option.bind_eq_some_iff.mp h
  by_cases ho : okN N
  · rw [if_pos ho] at h
    have h := Option.some.inj h
    · subst h3
      refine spell3 c0 c1 c2 w hL r _ 400 N ⟨hN⟩ ho.1 (p4 N) (p4_of ho) ⟨rfl⟩ (fun hn => ?_) (fun hy => ?_)
      · rw [← h]; exact if_neg (fun hb => hn ((rngb_iff _ _).mp hb))
      · rw [← h, ← LK4_255]; exact if_pos ((rngb_iff _ _).mpr hy)
  · rw [if_neg ho] at h; cases h
end Go.Proofs.YthonpnaccjajcaaGreatDoorX
