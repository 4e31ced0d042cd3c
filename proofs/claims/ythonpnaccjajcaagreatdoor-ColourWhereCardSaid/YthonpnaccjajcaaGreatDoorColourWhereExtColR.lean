/- CONTRACT of colour.Read (strings.ContainsFunc over a closure), over the shelf's contract, the printed colour.Named and cname.Hex. -/
import Derived.Test.YthonpnaccjajcaaGreatDoorColourWherePx3
import Derived.Test.YthonpnaccjajcaaGreatDoorColourWherePx46
set_option linter.unusedVariables false
set_option linter.unusedSimpArgs false
namespace Go.Proofs.YthonpnaccjajcaaGreatDoorX
open Go.RowKit Go.Proofs.YthonpnaccjajcaaGreatDoorW.PrintWords Go.Shelf Go.Proofs.YthonpnaccjajcaaGreatDoor.P
def hexB (c : UInt8) : Bool := (48 ≤ c && c ≤ 57) || (97 ≤ c && c ≤ 102) || (65 ≤ c && c ≤ 70)
def noHex (x : Nat) : Bool := !((decide (48 ≤ x) && decide (x ≤ 57)) || (decide (97 ≤ x) && decide (x ≤ 102)) || (decide (65 ≤ x) && decide (x ≤ 70)))
theorem hexB_nat (c : UInt8) : hexB c = !noHex c.toNat := by
  unfold hexB noHex
  rw [Bool.not_not]
  rfl
theorem get!_at (s : ByteArray) (p : Nat) (h : p < s.size) : s.get! p = s[p] := by
  show s.data[p]! = s.data[p]
  exact getElem!_pos s.data p h
theorem decode_low (s : ByteArray) (p : Nat) (h : p < s.size) (h2 : (s[p]'h).toNat < 128) : Utf8.decode s p = ((s[p]'h).toNat, 1) := by
  unfold Utf8.decode
  simp only [Nat.add_zero, get!_at s p h]
  rw [if_pos (by omega)]
theorem decode_high (s : ByteArray) (p : Nat) (h : p < s.size) (h2 : 128 ≤ (s[p]'h).toNat) : 128 ≤ (Utf8.decode s p).1 := by
  unfold Utf8.decode
  simp only [Nat.add_zero, get!_at s p h]
  rw [if_neg (by omega)]
  have hE : 128 ≤ Utf8.runeError := by decide
  repeat' split
  all_goals (try simp only [ge_iff_le, Bool.and_eq_true, decide_eq_true_eq] at *)
  all_goals first | exact hE | omega
theorem idx_bytes (q : Nat → Bool) (pB : UInt8 → Bool) (h1 : ∀ c : UInt8, pB c = !q c.toNat) (h2 : ∀ x, 128 ≤ x → q x = true) (s : ByteArray) : ∀ f pos, pos ≤ s.size → s.size ≤ pos + f → (0 ≤ Lib.idxFuncFrom q true s f pos ↔ ¬ (s.data.toList.drop pos).all pB = true) := by
  intro f
  induction f with
  | zero =>
    intro pos hp hf
    have : s.data.toList.drop pos = [] := by
      apply List.drop_eq_nil_of_le; rw [← Lib.size_eq]; omega
    simp [Lib.idxFuncFrom, this]
  | succ f ih =>
    intro pos hp hf
    unfold Lib.idxFuncFrom
    by_cases h : pos < s.size
    · rw [if_pos h]
      have hl : pos < s.data.toList.length := by rw [← Lib.size_eq]; exact h
      have hd : s.data.toList.drop pos = s[pos] :: s.data.toList.drop (pos + 1) := by
        rw [List.drop_eq_getElem_cons hl]; rfl
      rw [hd]
      by_cases h3 : (s[pos]'h).toNat < 128
      · rw [decode_low s pos h h3]
        dsimp only
        cases hq : q (s[pos]'h).toNat with
        | true =>
          rw [if_pos rfl]
          simp [h1, hq]
        | false =>
          rw [if_neg (by decide), ih (pos + 1) (by omega) (by omega)]
          simp [h1, hq]
      · have := h2 _ (decode_high s pos h (by omega))
        rw [this, if_pos rfl]
        simp [h1, h2 _ (show 128 ≤ (s[pos]'h).toNat by omega)]
    · rw [if_neg h]
      have : s.data.toList.drop pos = [] := by
        apply List.drop_eq_nil_of_le; rw [← Lib.size_eq]; omega
      simp [this]
theorem idx_all (q : Nat → Bool) (pB : UInt8 → Bool) (h1 : ∀ c : UInt8, pB c = !q c.toNat) (h2 : ∀ x, 128 ≤ x → q x = true) (s : ByteArray) : decide (0 ≤ Lib.idxFunc q true s) = !(s.data.toList.all pB) := by
  have h := idx_bytes q pB h1 h2 s s.size 0 (by omega) (by omega)
  rw [List.drop_zero] at h
  unfold Lib.idxFunc
  cases hb : s.data.toList.all pB with
  | true => rw [hb] at h; simpa using h
  | false => rw [hb] at h; simpa using h
theorem noHex_high (x : Nat) (h : 128 ≤ x) : noHex x = true := by
  unfold noHex
  simp
  omega
theorem hex_f (x : Nat) : cname_Hex.f (x : Int) = some (!noHex x) := by
  have fin : ∀ b : Bool, (b = true ↔ (48 ≤ x ∧ x ≤ 57) ∨ (97 ≤ x ∧ x ≤ 102) ∨ (65 ≤ x ∧ x ≤ 70)) → some b = some (!noHex x) := by
    intro b hb
    refine congrArg some ?_
    rw [Bool.eq_iff_iff, hb]
    unfold noHex
    rw [Bool.not_not]
    simp only [Bool.or_eq_true, Bool.and_eq_true, decide_eq_true_eq]
    omega
  unfold cname_Hex.f cname_Digit.f
  have tail : (if (x : Int) ≥ 65 then some (decide ((x : Int) ≤ 70)) else some false) = some (decide (65 ≤ x ∧ x ≤ 70)) := by
    split
    · refine congrArg some (decide_eq_decide.2 ?_); omega
    · refine congrArg some (Eq.symm (decide_eq_false ?_)); omega
  rw [tail]
  have digit : (if (x : Int) ≥ 48 then some (decide ((x : Int) ≤ 57)) else some false) = some (decide (48 ≤ x ∧ x ≤ 57)) := by
    split
    · refine congrArg some (decide_eq_decide.2 ?_); omega
    · refine congrArg some (Eq.symm (decide_eq_false ?_)); omega
  rw [digit]
  show (if decide (48 ≤ x ∧ x ≤ 57) = true then _ else _) = _
  by_cases h1 : 48 ≤ x ∧ x ≤ 57
  · rw [if_pos (decide_eq_true h1)]
    exact fin true (by simp; omega)
  · rw [if_neg (by simpa using h1)]
    by_cases h3 : (x : Int) ≥ 97
    · rw [if_pos h3]
      by_cases h4 : (x : Int) ≤ 102
      · rw [if_pos h4]
        exact fin true (by simp; omega)
      · rw [if_neg h4]
        exact fin _ (by rw [decide_eq_true_eq]; omega)
    · rw [if_neg h3]
      exact fin _ (by rw [decide_eq_true_eq]; omega)
theorem read1_any (x : Nat) (hx : x ≤ 1114111) (w : World) : Calls Tryz.prog 36 (#[encR x] ++ #[]) w fun e w' => e = .returned (.bool (noHex x)) ∧ Below w.heap.size w w' := by
  show Calls Tryz.prog 36 #[.int .i32 (x : Int)] w _
  have hc := cname_Hex.calls (x : Int) _ w (hex_f x)
  have hx0 : (0 : Int) ≤ (x : Int) := by omega
  have hx1 : (x : Int) ≤ 1114111 := by omega
  generalize hq : noHex x = q at hc ⊢
  clear hq
  go_enter Tryz.func36, Tryz.ntmps36
  go_wp2_with (go_at_call 37; refine hc.mono ?_; rintro e w' ⟨rfl, hd⟩)
  go_ret
  exact ⟨by simp, Drawn0.below (by assumption)⟩
theorem read1_pays (w : World) : PredGrows Tryz.prog 36 #[] noHex w := fun W x hx _ => read1_any x hx W
theorem read1_enters : ∀ args w, (callFunc 36 args).run Tryz.prog w = .ok (.enter 36 args) w := enters_of Tryz.func36 (by kernel_rfl) rfl
def withOk : Option (Int × Int × Int × Int) → Option (Int × Int × Int × Int × Bool)
  | some (a, b, c, d) => some (a, b, c, d, true)
  | none => none
def colour_Read.f (a0 : Int) (a1 a2 : ByteArray) (a3 : Bool) (a4 a5 : ByteArray) (a6 a7 : Bool) (a8 a9 a10 a11 a12 : Int) : Option (Int × Int × Int × Int × Bool) :=
  if a0 = 1 then colour_Named.f 1000 a1
  else if a0 = 4 ∧ a1.data.toList.all hexB = true then
    if a1.size = 3 ∨ a1.size = 4 then withOk (colour_digits.f a1 1)
    else if a1.size = 6 ∨ a1.size = 8 then withOk (colour_digits.f a1 2)
    else some (0, 0, 0, 0, false)
  else some (0, 0, 0, 0, false)
theorem bcell {W w1 : World} (hb : Below W.heap.size W w1) : (∀ b o, b < W.heap.size → w1.cell? ⟨b, o, none⟩ = W.cell? ⟨b, o, none⟩) ∧ (∀ b o, b < W.heap.size → w1.frozen? ⟨b, o, none⟩ = W.frozen? ⟨b, o, none⟩) :=
  ⟨fun b o h => hb.cell (p := ⟨b, o, none⟩) h, fun b o h => hb.frozen (p := ⟨b, o, none⟩) h⟩
theorem res_blk (w : World) (o : Obj) (W' : World) (hb : Below ((w.alloc o).alloc (.cells #[.int .i64 0, .int .i64 0, .int .i64 0, .int .i64 0] 33)).heap.size ((w.alloc o).alloc (.cells #[.int .i64 0, .int .i64 0, .int .i64 0, .int .i64 0] 33)) W') : W'.heap[w.heap.size + 1]? = some (.cells #[.int .i64 0, .int .i64 0, .int .i64 0, .int .i64 0] 33 (0, 0)) := by
  have := blk_below (blk_new (w.alloc o) (.cells #[.int .i64 0, .int .i64 0, .int .i64 0, .int .i64 0] 33)) hb
  simpa using this
set_option maxHeartbeats 4000000 in
set_option maxRecDepth 100000 in
theorem colour_Read.calls (a0 : Int) (a1 a2 : ByteArray) (a3 : Bool) (a4 a5 : ByteArray) (a6 a7 : Bool) (a8 a9 a10 a11 a12 : Int) (r1 r2 r3 r4 : Int) (r5 : Bool) (w : World) (hL : LaidW w) (h : colour_Read.f a0 a1 a2 a3 a4 a5 a6 a7 a8 a9 a10 a11 a12 = some (r1, r2, r3, r4, r5)) :
    Calls Tryz.prog 16 #[.agg #[.int .i64 a0, .string a1, .string a2, .bool a3, .string a4, .string a5, .bool a6, .bool a7, .int .i64 a8, .int .i64 a9, .int .i64 a10, .int .i64 a11, .int .i64 a12]] w fun e w' => e = .returned (.tuple #[.agg #[.int .i64 r1, .int .i64 r2, .int .i64 r3, .int .i64 r4], .bool r5]) ∧ Below w.heap.size w w' := by
  have hbel : ∀ (o o' : Obj) (W : World), Below ((w.alloc o).alloc o').heap.size ((w.alloc o).alloc o') W → Below w.heap.size w W := fun o o' W hb => (((Below.refl _ _).alloc (Nat.le_refl _) _).alloc (by simp) _).trans (hb.mono (by simp; omega))
  unfold colour_Read.f at h
  by_cases h1 : a0 = 1
  · rw [if_pos h1] at h
    subst h1
    have hc := fun W (hb : Below w.heap.size w W) => colour_Named.calls 1000 a1 r1 r2 r3 r4 r5 W (hL.below hb) h
    go_enter Tryz.func16, Tryz.ntmps16
    go_wp2_with (go_at_call 10; refine (hc _ (((Below.refl _ _).alloc (Nat.le_refl _) _).alloc (by simp) _)).mono ?_; rintro e w1 ⟨rfl, hb⟩; have hk := Lib.hid (res_blk w _ w1 hb); have hl := Lib.hid (hbel _ _ _ hb); obtain ⟨hcw, hfw⟩ := bcell hb)
    have hb4 := blk_set (blk_set (blk_set (blk_set (hk.out) 0 (.int .i64 r1)) 1 (.int .i64 r2)) 2 (.int .i64 r3)) 3 (.int .i64 r4)
    have hq0 := (blk_cell hb4 0).trans rfl
    have hq1 := (blk_cell hb4 1).trans rfl
    have hq2 := (blk_cell hb4 2).trans rfl
    have hq3 := (blk_cell hb4 3).trans rfl
    clear hb4
    exact bodyPost_ret (v := .tuple #[.agg #[.int .i64 r1, .int .i64 r2, .int .i64 r3, .int .i64 r4], .bool r5]) (by simp [results, Tryz.results16, go_sem, hq0, hq1, hq2, hq3]) rfl ⟨rfl, ((((hl.out).setCell (Nat.le_succ _) _).setCell (Nat.le_succ _) _).setCell (Nat.le_succ _) _).setCell (Nat.le_succ _) _⟩
  · rw [if_neg h1] at h
    have h1b : (a0 == 1) = false := beq_eq_false_iff_ne.2 h1
    by_cases h4 : a0 = 4
    · subst h4
      have hd0 := fun W => Tryz.strings_ContainsFunc_grows _ #[] read1_enters noHex a1 W (read1_pays W)
      rw [idx_all noHex hexB hexB_nat noHex_high a1] at hd0
      clear h1 h1b
      cases hx : a1.data.toList.all hexB with
      | false =>
        rw [hx] at h hd0
        rw [if_neg (by simp)] at h
        simp only [Option.some.injEq, Prod.mk.injEq] at h
        obtain ⟨rfl, rfl, rfl, rfl, rfl⟩ := h
        have hd : ∀ W, Calls Tryz.prog 35 #[.string a1, .func (.func 36) #[] #[]] W fun e w' => e = .returned (.bool true) ∧ Below W.heap.size W w' := hd0
        clear hd0 hx
        go_enter Tryz.func16, Tryz.ntmps16
        go_wp2_with (go_at_call 35; refine (hd _).mono ?_; rintro e w1 ⟨rfl, hb⟩; have hz : w.heap.size + 1 < w1.heap.size := (by have := hb.size; simp at this; omega); have hk := Lib.hid (res_blk w _ w1 hb); have hl := Lib.hid (hbel _ _ _ hb); obtain ⟨hcw, hfw⟩ := bcell hb)
        have hb4 := blk_set (blk_set (blk_set (blk_set (hk.out) 0 (.int .i64 0)) 1 (.int .i64 0)) 2 (.int .i64 0)) 3 (.int .i64 0)
        have hq0 := (blk_cell hb4 0).trans rfl
        have hq1 := (blk_cell hb4 1).trans rfl
        have hq2 := (blk_cell hb4 2).trans rfl
        have hq3 := (blk_cell hb4 3).trans rfl
        clear hb4
        exact bodyPost_ret (v := .tuple #[.agg #[.int .i64 0, .int .i64 0, .int .i64 0, .int .i64 0], .bool false]) (by simp [results, Tryz.results16, go_sem, hq0, hq1, hq2, hq3]) rfl ⟨rfl, ((((hl.out).setCell (Nat.le_succ _) _).setCell (Nat.le_succ _) _).setCell (Nat.le_succ _) _).setCell (Nat.le_succ _) _⟩
      | true =>
        rw [hx] at h hd0
        rw [if_pos (by simp)] at h
        have hd : ∀ W, Calls Tryz.prog 35 #[.string a1, .func (.func 36) #[] #[]] W fun e w' => e = .returned (.bool false) ∧ Below W.heap.size W w' := hd0
        clear hd0 hx
        by_cases s1 : a1.size = 3 ∨ a1.size = 4
        · rw [if_pos s1] at h
          have hD : colour_digits.f a1 1 = some (r1, r2, r3, r4) ∧ r5 = true := by
            cases hq : colour_digits.f a1 1 with
            | none => rw [hq] at h; exact absurd h (by simp [withOk])
            | some q =>
              obtain ⟨q1, q2, q3, q4⟩ := q
              rw [hq] at h
              simp only [withOk, Option.some.injEq, Prod.mk.injEq] at h
              obtain ⟨rfl, rfl, rfl, rfl, rfl⟩ := h
              exact ⟨rfl, rfl⟩
          obtain ⟨hD, rfl⟩ := hD
          rcases s1 with s1 | s1
          · have hg := fun W (hb : Below w.heap.size w W) => colour_digits.calls a1 1 r1 r2 r3 r4 W (hL.below hb) hD
            clear hD h
            go_enter Tryz.func16, Tryz.ntmps16
            go_wp2_with (first | (go_at_call 35; refine (hd _).mono ?_; rintro e w1 ⟨rfl, hb⟩; have hz : w.heap.size + 1 < w1.heap.size := (by have := hb.size; simp at this; omega); have hk := Lib.hid (res_blk w _ w1 hb); have hl := Lib.hid (hbel _ _ _ hb); obtain ⟨hcw, hfw⟩ := bcell hb) | (go_at_call 29; refine (hg _ hl.out).mono ?_; rintro e w2 ⟨rfl, hb2⟩; have hk2 := Lib.hid (blk_below hk.out hb2); have hl2 := Lib.hid (hl.out.trans (hb2.mono hl.out.size)); obtain ⟨hcw2, hfw2⟩ := bcell hb2))
            have hb4 := blk_set (blk_set (blk_set (blk_set (hk2.out) 0 (.int .i64 r1)) 1 (.int .i64 r2)) 2 (.int .i64 r3)) 3 (.int .i64 r4)
            have hq0 := (blk_cell hb4 0).trans rfl
            have hq1 := (blk_cell hb4 1).trans rfl
            have hq2 := (blk_cell hb4 2).trans rfl
            have hq3 := (blk_cell hb4 3).trans rfl
            clear hb4
            exact bodyPost_ret (v := .tuple #[.agg #[.int .i64 r1, .int .i64 r2, .int .i64 r3, .int .i64 r4], .bool true]) (by simp [results, Tryz.results16, go_sem, hq0, hq1, hq2, hq3]) rfl ⟨rfl, ((((hl2.out).setCell (Nat.le_succ _) _).setCell (Nat.le_succ _) _).setCell (Nat.le_succ _) _).setCell (Nat.le_succ _) _⟩
          · have hg := fun W (hb : Below w.heap.size w W) => colour_digits.calls a1 1 r1 r2 r3 r4 W (hL.below hb) hD
            clear hD h
            go_enter Tryz.func16, Tryz.ntmps16
            go_wp2_with (first | (go_at_call 35; refine (hd _).mono ?_; rintro e w1 ⟨rfl, hb⟩; have hz : w.heap.size + 1 < w1.heap.size := (by have := hb.size; simp at this; omega); have hk := Lib.hid (res_blk w _ w1 hb); have hl := Lib.hid (hbel _ _ _ hb); obtain ⟨hcw, hfw⟩ := bcell hb) | (go_at_call 29; refine (hg _ hl.out).mono ?_; rintro e w2 ⟨rfl, hb2⟩; have hk2 := Lib.hid (blk_below hk.out hb2); have hl2 := Lib.hid (hl.out.trans (hb2.mono hl.out.size)); obtain ⟨hcw2, hfw2⟩ := bcell hb2))
            have hb4 := blk_set (blk_set (blk_set (blk_set (hk2.out) 0 (.int .i64 r1)) 1 (.int .i64 r2)) 2 (.int .i64 r3)) 3 (.int .i64 r4)
            have hq0 := (blk_cell hb4 0).trans rfl
            have hq1 := (blk_cell hb4 1).trans rfl
            have hq2 := (blk_cell hb4 2).trans rfl
            have hq3 := (blk_cell hb4 3).trans rfl
            clear hb4
            exact bodyPost_ret (v := .tuple #[.agg #[.int .i64 r1, .int .i64 r2, .int .i64 r3, .int .i64 r4], .bool true]) (by simp [results, Tryz.results16, go_sem, hq0, hq1, hq2, hq3]) rfl ⟨rfl, ((((hl2.out).setCell (Nat.le_succ _) _).setCell (Nat.le_succ _) _).setCell (Nat.le_succ _) _).setCell (Nat.le_succ _) _⟩
        · rw [if_neg s1] at h
          by_cases s2 : a1.size = 6 ∨ a1.size = 8
          · rw [if_pos s2] at h
            have hD : colour_digits.f a1 2 = some (r1, r2, r3, r4) ∧ r5 = true := by
              cases hq : colour_digits.f a1 2 with
              | none => rw [hq] at h; exact absurd h (by simp [withOk])
              | some q =>
                obtain ⟨q1, q2, q3, q4⟩ := q
                rw [hq] at h
                simp only [withOk, Option.some.injEq, Prod.mk.injEq] at h
                obtain ⟨rfl, rfl, rfl, rfl, rfl⟩ := h
                exact ⟨rfl, rfl⟩
            obtain ⟨hD, rfl⟩ := hD
            rcases s2 with s2 | s2
            · have hg := fun W (hb : Below w.heap.size w W) => colour_digits.calls a1 2 r1 r2 r3 r4 W (hL.below hb) hD
              clear hD h
              go_enter Tryz.func16, Tryz.ntmps16
              go_wp2_with (first | (go_at_call 35; refine (hd _).mono ?_; rintro e w1 ⟨rfl, hb⟩; have hz : w.heap.size + 1 < w1.heap.size := (by have := hb.size; simp at this; omega); have hk := Lib.hid (res_blk w _ w1 hb); have hl := Lib.hid (hbel _ _ _ hb); obtain ⟨hcw, hfw⟩ := bcell hb) | (go_at_call 29; refine (hg _ hl.out).mono ?_; rintro e w2 ⟨rfl, hb2⟩; have hk2 := Lib.hid (blk_below hk.out hb2); have hl2 := Lib.hid (hl.out.trans (hb2.mono hl.out.size)); obtain ⟨hcw2, hfw2⟩ := bcell hb2))
              have hb4 := blk_set (blk_set (blk_set (blk_set (hk2.out) 0 (.int .i64 r1)) 1 (.int .i64 r2)) 2 (.int .i64 r3)) 3 (.int .i64 r4)
              have hq0 := (blk_cell hb4 0).trans rfl
              have hq1 := (blk_cell hb4 1).trans rfl
              have hq2 := (blk_cell hb4 2).trans rfl
              have hq3 := (blk_cell hb4 3).trans rfl
              clear hb4
              exact bodyPost_ret (v := .tuple #[.agg #[.int .i64 r1, .int .i64 r2, .int .i64 r3, .int .i64 r4], .bool true]) (by simp [results, Tryz.results16, go_sem, hq0, hq1, hq2, hq3]) rfl ⟨rfl, ((((hl2.out).setCell (Nat.le_succ _) _).setCell (Nat.le_succ _) _).setCell (Nat.le_succ _) _).setCell (Nat.le_succ _) _⟩
            · have hg := fun W (hb : Below w.heap.size w W) => colour_digits.calls a1 2 r1 r2 r3 r4 W (hL.below hb) hD
              clear hD h
              go_enter Tryz.func16, Tryz.ntmps16
              go_wp2_with (first | (go_at_call 35; refine (hd _).mono ?_; rintro e w1 ⟨rfl, hb⟩; have hz : w.heap.size + 1 < w1.heap.size := (by have := hb.size; simp at this; omega); have hk := Lib.hid (res_blk w _ w1 hb); have hl := Lib.hid (hbel _ _ _ hb); obtain ⟨hcw, hfw⟩ := bcell hb) | (go_at_call 29; refine (hg _ hl.out).mono ?_; rintro e w2 ⟨rfl, hb2⟩; have hk2 := Lib.hid (blk_below hk.out hb2); have hl2 := Lib.hid (hl.out.trans (hb2.mono hl.out.size)); obtain ⟨hcw2, hfw2⟩ := bcell hb2))
              have hb4 := blk_set (blk_set (blk_set (blk_set (hk2.out) 0 (.int .i64 r1)) 1 (.int .i64 r2)) 2 (.int .i64 r3)) 3 (.int .i64 r4)
              have hq0 := (blk_cell hb4 0).trans rfl
              have hq1 := (blk_cell hb4 1).trans rfl
              have hq2 := (blk_cell hb4 2).trans rfl
              have hq3 := (blk_cell hb4 3).trans rfl
              clear hb4
              exact bodyPost_ret (v := .tuple #[.agg #[.int .i64 r1, .int .i64 r2, .int .i64 r3, .int .i64 r4], .bool true]) (by simp [results, Tryz.results16, go_sem, hq0, hq1, hq2, hq3]) rfl ⟨rfl, ((((hl2.out).setCell (Nat.le_succ _) _).setCell (Nat.le_succ _) _).setCell (Nat.le_succ _) _).setCell (Nat.le_succ _) _⟩
          · rw [if_neg s2] at h
            simp only [Option.some.injEq, Prod.mk.injEq] at h
            obtain ⟨rfl, rfl, rfl, rfl, rfl⟩ := h
            have z3 : a1.size ≠ 3 := fun e => s1 (Or.inl e)
            have z4 : a1.size ≠ 4 := fun e => s1 (Or.inr e)
            have z6 : a1.size ≠ 6 := fun e => s2 (Or.inl e)
            have z8 : a1.size ≠ 8 := fun e => s2 (Or.inr e)
            have y3 : ((a1.size : Int) == 3) = false := beq_eq_false_iff_ne.2 (by omega)
            have y4 : ((a1.size : Int) == 4) = false := beq_eq_false_iff_ne.2 (by omega)
            have y6 : ((a1.size : Int) == 6) = false := beq_eq_false_iff_ne.2 (by omega)
            have y8 : ((a1.size : Int) == 8) = false := beq_eq_false_iff_ne.2 (by omega)
            clear s1 s2
            go_enter Tryz.func16, Tryz.ntmps16
            go_wp2_with (go_at_call 35; refine (hd _).mono ?_; rintro e w1 ⟨rfl, hb⟩; have hz : w.heap.size + 1 < w1.heap.size := (by have := hb.size; simp at this; omega); have hk := Lib.hid (res_blk w _ w1 hb); have hl := Lib.hid (hbel _ _ _ hb); obtain ⟨hcw, hfw⟩ := bcell hb)
            have hb4 := blk_set (blk_set (blk_set (blk_set (hk.out) 0 (.int .i64 0)) 1 (.int .i64 0)) 2 (.int .i64 0)) 3 (.int .i64 0)
            have hq0 := (blk_cell hb4 0).trans rfl
            have hq1 := (blk_cell hb4 1).trans rfl
            have hq2 := (blk_cell hb4 2).trans rfl
            have hq3 := (blk_cell hb4 3).trans rfl
            clear hb4
            exact bodyPost_ret (v := .tuple #[.agg #[.int .i64 0, .int .i64 0, .int .i64 0, .int .i64 0], .bool false]) (by simp [results, Tryz.results16, go_sem, hq0, hq1, hq2, hq3]) rfl ⟨rfl, ((((hl.out).setCell (Nat.le_succ _) _).setCell (Nat.le_succ _) _).setCell (Nat.le_succ _) _).setCell (Nat.le_succ _) _⟩
    · rw [if_neg (fun e => h4 e.1)] at h
      simp only [Option.some.injEq, Prod.mk.injEq] at h
      obtain ⟨rfl, rfl, rfl, rfl, rfl⟩ := h
      have h4b : (a0 == 4) = false := beq_eq_false_iff_ne.2 h4
      have h4c : (a0 != 4) = true := bne_iff_ne.2 h4
      clear h1 h4
      go_enter Tryz.func16, Tryz.ntmps16
      go_wp2
      have hk : ((w.alloc _).alloc _).heap[w.heap.size + 1]? = some (.cells #[.int .i64 0, .int .i64 0, .int .i64 0, .int .i64 0] 33 (0, 0)) := res_blk w (.cells #[.int .i64 a0, .string a1, .string a2, .bool a3, .string a4, .string a5, .bool a6, .bool a7, .int .i64 a8, .int .i64 a9, .int .i64 a10, .int .i64 a11, .int .i64 a12] 39) _ (Below.refl _ _)
      have hq0 := (blk_cell hk 0).trans rfl
      have hq1 := (blk_cell hk 1).trans rfl
      have hq2 := (blk_cell hk 2).trans rfl
      have hq3 := (blk_cell hk 3).trans rfl
      clear hk
      exact bodyPost_ret (v := .tuple #[.agg #[.int .i64 0, .int .i64 0, .int .i64 0, .int .i64 0], .bool false]) (by simp [results, Tryz.results16, go_sem, hq0, hq1, hq2, hq3]) rfl ⟨rfl, hbel _ _ _ (Below.refl _ _)⟩
end Go.Proofs.YthonpnaccjajcaaGreatDoorX
