/- ColourNames, the walk by hand: the law stores into the row of a conversion, which the print does not take. -/
import Derived.Test.YthonpnaccjajcaaDoorColourNamesPCol
import Derived.Test.YthonpnaccjajcaaDoorColourNamesPx4
import Derived.Test.YthonpnaccjajcaaDoorColourNamesPx3
import Derived.Test.YthonpnaccjajcaaDoorColourNamesPx9
set_option linter.unusedVariables false
set_option linter.unusedSimpArgs false
namespace Go.Proofs.YthonpnaccjajcaaDoorX
open Go.RowKit Go.Proofs.YthonpnaccjajcaaDoorW.PrintWords Go.Proofs.YthonpnaccjajcaaDoorW.PrintLast Go.Proofs.YthonpnaccjajcaaDoorW.PrintMore Go.Shelf Go.Proofs.YthonpnaccjajcaaDoor.P
def byteQ (s : ByteArray) (q : Nat) : UInt8 := s.data.toList.getD q 0
def mixQ (f : UInt8 → UInt8) (s : ByteArray) (j q : Nat) : Int := if q < j then ((f (byteQ s q)).toNat : Int) else ((byteQ s q).toNat : Int)
structure MixSt (f : UInt8 → UInt8) (s : ByteArray) (w : World) (j : Nat) (wr : World) : Prop where
  cells : ∀ q, q < s.size → wr.cell? ⟨w.heap.size, q, none⟩ = some (.int .u8 (mixQ f s j q))
  free : ∀ q, q < s.size → wr.frozen? ⟨w.heap.size, q, none⟩ = false
  bel : Below w.heap.size w wr
  big : w.heap.size < wr.heap.size
def mapAll (f : UInt8 → UInt8) (s : ByteArray) : ByteArray := ⟨(s.data.toList.map f).toArray⟩
theorem MixSt.start (f : UInt8 → UInt8) (s : ByteArray) (w : World) : MixSt f s w 0 (Lib.bytesWorld w 5 s) := by
  refine ⟨fun q hq => ?_, fun q hq => ?_, bytes_below (Below.refl _ w) (Nat.le_refl _) 5 s, by rw [Lib.bytesWorld_size]; omega⟩
  · rw [Lib.bytesWorld_cell w 5 s q hq]
    simp [mixQ, byteQ]
  · simp only [World.frozen?, Lib.bytesWorld_at_new]
    have : q < (Lib.bytesCells w 5 s).size := by
      simp [Lib.bytesCells]; have : q < s.data.size := hq; omega
    simp
    omega
theorem MixSt.step {f : UInt8 → UInt8} {s : ByteArray} {w : World} {j : Nat} {wr : World} (h : MixSt f s w j wr) (hj : j < s.size) {x : Int} (hx : x = mixQ f s (j + 1) j) : MixSt f s w (j + 1) (wr.setCell ⟨w.heap.size, j, none⟩ (.int .u8 x)) := by
  subst hx
  refine ⟨fun q hq => ?_, fun q hq => by rw [World.frozen?_setCell]; exact h.free q hq, h.bel.setCell (Nat.le_refl _) _, by simpa [World.setCell] using h.big⟩
  by_cases e : q = j
  · subst e
    exact World.cell?_setCell_same _ _ _ (h.cells q hq)
  · rw [World.cell?_setCell_other _ _ _ _ (by intro e2; injection e2 with _ e3; exact e e3.symm), h.cells q hq]
    unfold mixQ
    congr 2
    by_cases hlt : q < j
    · rw [if_pos hlt, if_pos (by omega)]
    · rw [if_neg hlt, if_neg (by omega)]
theorem MixSt.below {f : UInt8 → UInt8} {s : ByteArray} {w : World} {j : Nat} {wr w1 : World} (h : MixSt f s w j wr) (hb : Below wr.heap.size wr w1) : MixSt f s w j w1 :=
  ⟨fun q hq => (hb.cell (p := ⟨w.heap.size, q, none⟩) h.big).trans (h.cells q hq), fun q hq => (hb.frozen (p := ⟨w.heap.size, q, none⟩) h.big).trans (h.free q hq), below_step h.bel hb, Nat.lt_of_lt_of_le h.big hb.size⟩
theorem MixSt.conv {f : UInt8 → UInt8} {s : ByteArray} {w wr : World} (h : MixSt f s w s.size wr) (cp : Nat) : (convert 25 9 (.slice (some ⟨w.heap.size, 0, none⟩) s.size cp)).run Tryd.prog wr = .ok (.string (mapAll f s)) wr := by
  have hl : (s.data.toList.map f).length = s.size := by rw [List.length_map]; rfl
  have := run_convert_bytes_back (P := Tryd.prog) wr 25 9 5 ⟨w.heap.size, 0, none⟩ cp (s.data.toList.map f) Tryd.underlying25 Tryd.underlying5 Tryd.underlying9 (fun q hq => by
    have hq' : q < s.size := by rw [hl] at hq; exact hq
    rw [add_plain, h.cells q hq']
    unfold mixQ byteQ
    rw [if_pos hq', List.getElem_map]
    have hq2 : q < s.data.toList.length := hq'
    rw [List.getD_eq_getElem?_getD, List.getElem?_eq_getElem hq2]
    rfl)
  rw [hl] at this
  exact this
theorem w64q (j : Nat) (h : j < 140737488355328) : wrap64 ((j : Int) + 1) = ((j + 1 : Nat) : Int) := by unfold wrap64; omega
theorem iOfq (x : Int) : intOf (.int .i64 x) = x := rfl
theorem measq {n j : Nat} {x : Int} (hx : x = ((j + 1 : Nat) : Int)) (h : j < n) : n - (intOf (.int .i64 x)).toNat < n - (intOf (.int .i64 (j : Int))).toNat := by
  rw [iOfq, iOfq, hx, Int.toNat_natCast, Int.toNat_natCast]; omega
def upB (c : UInt8) : UInt8 := c - 32
attribute [local go_sem high] eqCol
set_option maxHeartbeats 4000000 in
set_option maxRecDepth 100000 in
theorem names_in (q : Nat) (s : ByteArray) (N : List ByteArray) (c0 c1 c2 : Int) (L : List ByteArray) (w : World) (hL : LaidW w)
    (HNf : Aside0 (colour_Names.f 400 = some N)) (hN : N.length = 38) (hq : q < 38) (HS : Aside0 (rdOf ByteArray.empty N (q : Int) = s)) (hs : s.size < 100)
    (HSB : Aside0 (∀ j, j < s.size → 32 ≤ (byteQ s j).toNat))
    (hN1 : colour_Named.f 400 s = some (c0, c1, c2, 255, true)) (hN2 : colour_Named.f 400 (mapAll upB s) = some (c0, c1, c2, 255, true)) (HSp : Aside0 (colour_Spell.f c0 c1 c2 255 = some L))
    (hLl : L.length < 1000) (HM : Aside0 (∃ m, m < L.length ∧ rdOf ByteArray.empty L (m : Int) = s)) (HA : Aside0 (l19_alive.f 400 = some true))
    (HR : Aside0 (q = 0 ∨ Op.bytesLess (rdOf ByteArray.empty N ((q : Int) - 1)).data.toList s.data.toList = true)) :
    Calls Tryd.prog 3 #[.int .i64 (q : Int)] w fun e w' => e = .returned (.bool true) ∧ Below w.heap.size w w' := by
  have HB : Aside0 (Below w.heap.size w w) := ⟨Below.refl _ _⟩
  have c1_ : ((q : Int) < 0) = False := eq_false (by omega)
  have c2_ : ((q : Int) ≥ (38 : Int)) = False := eq_false (by omega)
  go_enter Tryd.func3, Tryd.ntmps3
  go_upto_region 3 with (first | (go_at_call 8; refine (l19_alive.calls 400 true _ ?side1 HA.out).mono ?_; (case side1 => first | exact hL | exact LaidW.below hL (by repeat (first | (with_reducible first | exact HB.out | apply below_alloc | apply pw_below_drewN | apply below_drew1) | exact HB.out))); rintro e w2 ⟨rfl, hb⟩; have n0_ := Aside0.mk (below_step (by repeat (first | (with_reducible first | exact HB.out | apply below_alloc | apply pw_below_drewN | apply below_drew1) | exact HB.out)) hb); clear HB hb; have HB := n0_; clear n0_) | (go_at_call 9; refine (colour_Names.calls 400 N _ ?side1 HNf.out).mono ?_; (case side1 => first | exact hL | exact LaidW.below hL (by repeat (first | (with_reducible first | exact HB.out | apply below_alloc | apply pw_below_drewN | apply below_drew1) | exact HB.out))); rintro e w3 ⟨v4, rfl, ho0, hb⟩; have n0_ := Aside0.mk (below_step (by repeat (first | (with_reducible first | exact HB.out | apply below_alloc | apply pw_below_drewN | apply below_drew1) | exact HB.out)) hb); have n1_ := Aside0.mk (Kd.R_lower ho0 (below_size (by repeat (first | (with_reducible first | exact HB.out | apply below_alloc | apply pw_below_drewN | apply below_drew1) | exact HB.out))) : Kd.R Kd.string 9 w3 w.heap.size (fun _ => True) v4 N); clear HB hb ho0; have HB := n0_; have HN := n1_; clear n0_ n1_; obtain ⟨AN, cN, eN⟩ := Kd.R_slice HN.out; subst eN; rw [hN]))
  obtain ⟨ad, eA, hx⟩ := Kd.at_string (Kd.R_reads' HN.out).2.2 (q : Int) (by omega) (by omega)
  subst eA
  rw [Int.toNat_natCast, HS.out] at hx
  have p0 : (0 ≤ (q : Int)) = True := eq_true (by omega)
  have p1 : ((q : Int) < (38 : Int)) = True := eq_true (by omega)
  have hconv : ∀ W, (convert 9 25 (.string s)).run Tryd.prog W = .ok (.slice (some ⟨W.heap.size, 0, none⟩) s.size (grownCap W s.size 0 5)) (Lib.bytesWorld W 5 s) := fun W => Lib.run_convert_string_bytes W 9 25 5 s Tryd.underlying9 Tryd.underlying25 Tryd.underlying5
  go_upto_region 6 with (fail)
  have n0_ := Aside0.mk (MixSt.start upB s w3)
  have n1_ : Aside0 (Kd.R Kd.string 9 (Lib.bytesWorld w3 5 s) w.heap.size (fun k => k < w3.heap.size) (.slice (some ad) N.length cN) N) := ⟨Kd.R_below (Kd.R_mono (Kd.R_bound HN.out) (fun k hk => hk.2.2.1)) (bytes_below (Below.refl _ w3) (Nat.le_refl _) 5 s)⟩
  clear HN hx hconv
  generalize hW0 : Lib.bytesWorld w3 5 s = W0 at *
  clear hW0
  generalize grownCap w3 s.size 0 5 = cp
  obtain ⟨n, hn⟩ : ∃ n, n = s.size := ⟨_, rfl⟩
  have HNN := Aside0.mk hn
  clear hn
  go_wp2
  go_loopw [6] (fun i wr => ∃ j : Nat, j ≤ s.size ∧ i = .int .i64 j ∧ Aside0 (MixSt upB s w3 j wr) ∧ Aside0 (Kd.R Kd.string 9 wr w.heap.size (fun k => k < w3.heap.size) (.slice (some ad) N.length cN) N)) (fun i _ => n - (intOf i).toNat)
  case atStart => exact ⟨0, Nat.zero_le _, rfl, n0_, n1_⟩
  case round =>
    clear n0_ n1_
    obtain ⟨j, hj, rfl, HST, HN⟩ := hrel
    by_cases hlt : j < s.size
    · have h1 : ((j : Int) < (s.size : Int)) = True := eq_true (by omega)
      have h2 : (0 ≤ (j : Int)) = True := eq_true (by omega)
      have HW := Aside0.mk (w64q j (by omega))
      have hc := HST.out.cells j hlt
      have hf := HST.out.free j hlt
      have HX : Aside0 (mixQ upB s j j - 32 = mixQ upB s (j + 1) j) := ⟨by
        have h32 := HSB.out j hlt
        unfold mixQ upB
        rw [if_neg (by omega), if_pos (by omega), UInt8.toNat_sub]
        have : (32 : UInt8).toNat = 32 := rfl
        have := UInt8.toNat_lt (byteQ s j)
        omega⟩
      have hr : 32 ≤ mixQ upB s j j ∧ mixQ upB s j j ≤ 255 := by
        have h32 := HSB.out j hlt
        have := UInt8.toNat_lt (byteQ s j)
        unfold mixQ
        rw [if_neg (by omega)]
        omega
      generalize mixQ upB s j j = x at *
      go_wp2
      go_roundw
      case rel => exact ⟨j + 1, by omega, (by first | exact congrArg (Value.int .i64) HW.out | (refine congrArg (Value.int .i64) ?_; omega)), ⟨HST.out.step hlt HX.out⟩, ⟨Kd.R_far HN.out (fun k hk => Nat.ne_of_lt hk) _⟩⟩
      case measure => exact measq (by first | exact HW.out | omega) (by rw [HNN.out]; exact hlt)
    · obtain rfl : j = s.size := by omega
      have h1 : ((s.size : Int) < (s.size : Int)) = False := eq_false (by omega)
      clear h1 hlt hj
      go_upto_region 10 with (fail)
      obtain ⟨ad', eA, hx⟩ := Kd.at_string (Kd.R_reads' HN.out).2.2 (q : Int) (by omega) (by omega)
      cases eA
      rw [Int.toNat_natCast, HS.out] at hx
      go_upto_region 11 with (first | ((with_reducible refine gate_callee (f := 10) rfl ?_); refine goesL_ (some 58) rfl rfl Tryd.func10 (by kernel_rfl) rfl #[.string s] rfl (by (try simp only [List.map_toArray, List.map_cons, List.map_nil]); first | done | rfl) ?_; (with_reducible refine (colour_Named.calls 400 s c0 c1 c2 255 true _ ?side1 hN1).mono ?_); (case side1 => exact LaidW.below hL (below_step HB.out (HST.out.bel))); rintro e w4 ⟨rfl, hb⟩; refine ⟨_, rfl, ?_⟩))
      have b1 := Aside0.mk (below_step HB.out HST.out.bel)
      have n0_ := Aside0.mk (HST.out.below (below_alloc hb (.cells #[.int .i64 c0, .int .i64 c1, .int .i64 c2, .int .i64 255] 26)))
      have n1_ := Aside0.mk (Kd.R_below HN.out (below_alloc hb (.cells #[.int .i64 c0, .int .i64 c1, .int .i64 c2, .int .i64 255] 26)))
      have n2_ := Aside0.mk (below_step b1.out (below_alloc hb (.cells #[.int .i64 c0, .int .i64 c1, .int .i64 c2, .int .i64 255] 26)))
      have n3_ := Aside0.mk (blk_new w4 (.cells #[.int .i64 c0, .int .i64 c1, .int .i64 c2, .int .i64 255] 26))
      clear HST HN HB b1 hb hx
      generalize w4.alloc (.cells #[.int .i64 c0, .int .i64 c1, .int .i64 c2, .int .i64 255] 26) = w5 at *
      generalize w4.heap.size = g7 at *
      have hconv := n0_.out.conv cp
      go_upto_region 12 with (first | ((with_reducible refine gate_callee (f := 10) rfl ?_); refine goesL_ (some 64) rfl rfl Tryd.func10 (by kernel_rfl) rfl #[.string (mapAll upB s)] rfl (by (try simp only [List.map_toArray, List.map_cons, List.map_nil]); first | done | rfl) ?_; (with_reducible refine (colour_Named.calls 400 _ c0 c1 c2 255 true _ ?side1 hN2).mono ?_); (case side1 => exact LaidW.below hL n2_.out); rintro e w6 ⟨rfl, hb⟩; refine ⟨_, rfl, ?_⟩))
      have m0_ := Aside0.mk (Kd.R_below n1_.out (below_alloc hb (.cells #[.int .i64 c0, .int .i64 c1, .int .i64 c2, .int .i64 255] 26)))
      have m1_ := Aside0.mk (below_step n2_.out (below_alloc hb (.cells #[.int .i64 c0, .int .i64 c1, .int .i64 c2, .int .i64 255] 26)))
      have m2_ := Aside0.mk (blk_below n3_.out (below_alloc hb (.cells #[.int .i64 c0, .int .i64 c1, .int .i64 c2, .int .i64 255] 26)))
      have m3_ := Aside0.mk (blk_new w6 (.cells #[.int .i64 c0, .int .i64 c1, .int .i64 c2, .int .i64 255] 26))
      clear n0_ n1_ n2_ n3_ hb hconv
      generalize w6.alloc (.cells #[.int .i64 c0, .int .i64 c1, .int .i64 c2, .int .i64 255] 26) = w7 at *
      generalize w6.heap.size = g9 at *
      have hcz0 : w7.cell? ⟨g7, 0, none⟩ = some (.int .i64 c0) := (blk_cell m2_.out 0).trans rfl
      have hcz1 : w7.cell? ⟨g7, 1, none⟩ = some (.int .i64 c1) := (blk_cell m2_.out 1).trans rfl
      have hcz2 : w7.cell? ⟨g7, 2, none⟩ = some (.int .i64 c2) := (blk_cell m2_.out 2).trans rfl
      have hcz3 : w7.cell? ⟨g7, 3, none⟩ = some (.int .i64 255) := (blk_cell m2_.out 3).trans rfl
      go_upto_region 14 with (first | ((with_reducible refine gate_callee (f := 11) rfl ?_); refine goesL_ (some 68) rfl rfl Tryd.func11 (by kernel_rfl) rfl #[.agg #[.int .i64 c0, .int .i64 c1, .int .i64 c2, .int .i64 255]] rfl (by (try simp only [List.map_toArray, List.map_cons, List.map_nil]); first | done | rfl) ?_; (with_reducible refine (colour_Spell.calls c0 c1 c2 255 L _ ?side1 HSp.out).mono ?_); (case side1 => exact LaidW.below hL m1_.out); rintro e w8 ⟨v12, rfl, ho0, hb⟩; refine ⟨_, rfl, ?_⟩; have n0_ := Aside0.mk (Kd.R_below m0_.out hb); have n1_ := Aside0.mk (below_step m1_.out hb); have n2_ := Aside0.mk (blk_below m2_.out hb); have n3_ := Aside0.mk (blk_below m3_.out hb); have n4_ := Aside0.mk (Kd.R_lower ho0 (below_size m1_.out) : Kd.R Kd.string 9 w8 w.heap.size (fun _ => True) v12 L); clear m0_ m1_ m2_ m3_ hb ho0 hcz0 hcz1 hcz2 hcz3; obtain ⟨AL, cL, eL⟩ := Kd.R_slice n4_.out; subst eL))
      obtain ⟨m, hm, hLm⟩ := HM.out
      have HLm := Aside0.mk hLm
      clear hLm HM
      have n4' := n4_
      clear n4_
      go_wp2
      go_loopw [11, 13] (fun v11 v13 wq => ∃ j : Nat, ∃ b : Bool, j ≤ L.length ∧ v13 = .int .i64 j ∧ v11 = .bool b ∧ (m < j → b = true) ∧ Aside0 (Kd.R Kd.string 9 wq w.heap.size (fun k => k < w3.heap.size) (.slice (some ad) N.length cN) N) ∧ Aside0 (Kd.R Kd.string 9 wq w.heap.size (fun _ => True) (.slice AL L.length cL) L) ∧ Aside0 (wq.heap[g7]? = some (.cells #[.int .i64 c0, .int .i64 c1, .int .i64 c2, .int .i64 255] 26 (0, 0))) ∧ Aside0 (wq.heap[g9]? = some (.cells #[.int .i64 c0, .int .i64 c1, .int .i64 c2, .int .i64 255] 26 (0, 0))) ∧ Aside0 (Below w.heap.size w wq)) (fun _ i _ => L.length - (intOf i).toNat)
      case atStart => exact ⟨0, false, Nat.zero_le _, rfl, rfl, fun h => absurd h (Nat.not_lt_zero _), n0_, n4', n2_, n3_, n1_⟩
      case round =>
        clear n0_ n1_ n2_ n3_ n4'
        obtain ⟨j, b, hj, rfl, rfl, hb, HN, HLL, HK7, HK9, HB⟩ := hrel
        have HBJ := Aside0.mk hb
        clear hb
        by_cases hlt : j < L.length
        · have h1 : ((j : Int) < (L.length : Int)) = True := eq_true (by omega)
          have h2 : (0 ≤ (j : Int)) = True := eq_true (by omega)
          have HW := Aside0.mk (w64q j (by omega))
          obtain ⟨al, eL, hxl⟩ := Kd.at_string (Kd.R_reads' HLL.out).2.2 (j : Int) (by omega) (by omega)
          obtain ⟨ad', eA, hx⟩ := Kd.at_string (Kd.R_reads' HN.out).2.2 (q : Int) (by omega) (by omega)
          cases eA
          cases eL
          rw [Int.toNat_natCast] at hxl
          rw [Int.toNat_natCast, HS.out] at hx
          cases b with
          | true =>
            go_wp2
            repeat (go_quiet (fail); try go_wp2)
            go_roundw
            case rel => exact ⟨j + 1, true, by omega, (by first | exact congrArg (Value.int .i64) HW.out | (refine congrArg (Value.int .i64) ?_; omega)), rfl, fun _ => rfl, ⟨Kd.R_drewN HN.out _⟩, ⟨Kd.R_drewN HLL.out _⟩, ⟨blk_drewN HK7.out _⟩, ⟨blk_drewN HK9.out _⟩, ⟨pw_below_drewN HB.out _⟩⟩
            case measure => exact measq (by first | exact HW.out | omega) hlt
          | false =>
            by_cases e : rdOf ByteArray.empty L (j : Int) = s
            · rw [e] at hxl
              have e1 : (s.toList == s.toList) = true := beq_self_eq_true _
              go_wp2
              repeat (go_quiet (fail); try go_wp2)
              go_roundw
              case rel => exact ⟨j + 1, true, by omega, (by first | exact congrArg (Value.int .i64) HW.out | (refine congrArg (Value.int .i64) ?_; omega)), rfl, fun _ => rfl, ⟨Kd.R_drewN HN.out _⟩, ⟨Kd.R_drewN HLL.out _⟩, ⟨blk_drewN HK7.out _⟩, ⟨blk_drewN HK9.out _⟩, ⟨pw_below_drewN HB.out _⟩⟩
              case measure => exact measq (by first | exact HW.out | omega) hlt
            · generalize hy : rdOf ByteArray.empty L (j : Int) = y at *
              have e1 : (y.toList == s.toList) = false := beq_eq_false_iff_ne.mpr (fun h => e (by rw [Lib.toList_data, Lib.toList_data] at h; cases y; cases s; simpa [Array.toList_inj] using h))
              have HY := Aside0.mk hy
              clear hy
              go_wp2
              repeat (go_quiet (fail); try go_wp2)
              go_roundw
              case rel => exact ⟨j + 1, false, by omega, (by first | exact congrArg (Value.int .i64) HW.out | (refine congrArg (Value.int .i64) ?_; omega)), rfl, (fun hmj => by
                by_cases h : m = j
                · subst h; exact absurd (HY.out.symm.trans HLm.out) e
                · exact HBJ.out (by omega)), ⟨Kd.R_drewN HN.out _⟩, ⟨Kd.R_drewN HLL.out _⟩, ⟨blk_drewN HK7.out _⟩, ⟨blk_drewN HK9.out _⟩, ⟨pw_below_drewN HB.out _⟩⟩
              case measure => exact measq (by first | exact HW.out | omega) hlt
        · obtain rfl : j = L.length := by omega
          have hbt : b = true := HBJ.out hm
          subst hbt
          have h1 : ((L.length : Int) < (L.length : Int)) = False := eq_false (by omega)
          go_upto_region 18 with (fail)
          have hcz0 : wr.cell? ⟨g7, 0, none⟩ = some (.int .i64 c0) := (blk_cell HK7.out 0).trans rfl
          have hcz1 : wr.cell? ⟨g7, 1, none⟩ = some (.int .i64 c1) := (blk_cell HK7.out 1).trans rfl
          have hcz2 : wr.cell? ⟨g7, 2, none⟩ = some (.int .i64 c2) := (blk_cell HK7.out 2).trans rfl
          have hcz3 : wr.cell? ⟨g7, 3, none⟩ = some (.int .i64 255) := (blk_cell HK7.out 3).trans rfl
          have hdz0 : wr.cell? ⟨g9, 0, none⟩ = some (.int .i64 c0) := (blk_cell HK9.out 0).trans rfl
          have hdz1 : wr.cell? ⟨g9, 1, none⟩ = some (.int .i64 c1) := (blk_cell HK9.out 1).trans rfl
          have hdz2 : wr.cell? ⟨g9, 2, none⟩ = some (.int .i64 c2) := (blk_cell HK9.out 2).trans rfl
          have hdz3 : wr.cell? ⟨g9, 3, none⟩ = some (.int .i64 255) := (blk_cell HK9.out 3).trans rfl
          have heq : (c0 == c0 && (c1 == c1 && (c2 == c2 && ((255 : Int) == 255)))) = true := by simp
          by_cases hq0 : q = 0
          · subst hq0
            go_wp2
            repeat (go_quiet (fail); try go_wp2)
            exact bodyPost_ret (v := .bool true) (by simp [results, Tryd.results3, go_sem]) rfl ⟨rfl, pw_below_drewN HB.out _⟩
          · have hless := HR.out.resolve_left hq0
            obtain ⟨ad1, eA1, hx1⟩ := Kd.at_string (Kd.R_reads' HN.out).2.2 ((q : Int) - 1) (by omega) (by omega)
            cases eA1
            rw [show ((q : Int) - 1).toNat = q - 1 by omega] at hx1
            obtain ⟨ad', eA, hx⟩ := Kd.at_string (Kd.R_reads' HN.out).2.2 (q : Int) (by omega) (by omega)
            cases eA
            rw [Int.toNat_natCast, HS.out] at hx
            generalize rdOf ByteArray.empty N ((q : Int) - 1) = pv at *
            have k0 : ((q : Int) = 0) = False := eq_false (by omega)
            have k1 : (0 ≤ (q : Int) - 1) = True := eq_true (by omega)
            have k2 : ((q : Int) - 1 < (38 : Int)) = True := eq_true (by omega)
            have k4 : ((q : Int) == 0) = false := beq_eq_false_iff_ne.mpr (by omega)
            have k5 : 1 ≤ (q : Int) := by omega
            have k6 : (q : Int) ≤ 37 := by omega
            have k7 : IntKind.i64.wrap ((q : Int) - 1) = (q : Int) - 1 := by rw [IntKind.wrap_i64]; omega
            go_wp2
            repeat (go_quiet (fail); try go_wp2)
            exact bodyPost_ret (v := .bool true) (by simp [results, Tryd.results3, go_sem]; rw [Lib.toList_data, Lib.toList_data]; exact hless) rfl ⟨rfl, pw_below_drewN HB.out _⟩
set_option maxHeartbeats 4000000 in
set_option maxRecDepth 100000 in
theorem names_out (a : Int) (N : List ByteArray) (w : World) (hL : LaidW w) (HNf : Aside0 (colour_Names.f 400 = some N)) (hN : N.length = 38) (ha : a < 0 ∨ 38 ≤ a) (HA : Aside0 (l19_alive.f 400 = some true)) :
    Calls Tryd.prog 3 #[.int .i64 a] w fun e w' => e = .returned (.bool true) ∧ Below w.heap.size w w' := by
  have HB : Aside0 (Below w.heap.size w w) := ⟨Below.refl _ _⟩
  by_cases c1 : a < 0
  · have c1_ : (a < 0) = True := eq_true c1
    go_enter Tryd.func3, Tryd.ntmps3
    go_upto_region 3 with (first | (go_at_call 8; refine (l19_alive.calls 400 true _ ?side1 HA.out).mono ?_; (case side1 => first | exact hL | exact LaidW.below hL (by repeat (first | (with_reducible first | exact HB.out | apply below_alloc | apply pw_below_drewN | apply below_drew1) | exact HB.out))); rintro e w2 ⟨rfl, hb⟩; have n0_ := Aside0.mk (below_step (by repeat (first | (with_reducible first | exact HB.out | apply below_alloc | apply pw_below_drewN | apply below_drew1) | exact HB.out)) hb); clear HB hb; have HB := n0_; clear n0_) | (go_at_call 9; refine (colour_Names.calls 400 N _ ?side1 HNf.out).mono ?_; (case side1 => first | exact hL | exact LaidW.below hL (by repeat (first | (with_reducible first | exact HB.out | apply below_alloc | apply pw_below_drewN | apply below_drew1) | exact HB.out))); rintro e w3 ⟨v4, rfl, ho0, hb⟩; have n0_ := Aside0.mk (below_step (by repeat (first | (with_reducible first | exact HB.out | apply below_alloc | apply pw_below_drewN | apply below_drew1) | exact HB.out)) hb); have n1_ := Aside0.mk (Kd.R_lower ho0 (below_size (by repeat (first | (with_reducible first | exact HB.out | apply below_alloc | apply pw_below_drewN | apply below_drew1) | exact HB.out))) : Kd.R Kd.string 9 w3 w.heap.size (fun _ => True) v4 N); clear HB hb ho0; have HB := n0_; have HN := n1_; clear n0_ n1_; obtain ⟨AN, cN, eN⟩ := Kd.R_slice HN.out; subst eN; rw [hN]))
    go_wp2
    exact bodyPost_ret (v := .bool true) (by simp [results, Tryd.results3, go_sem]) rfl ⟨rfl, HB.out⟩
  · have c1_ : (a < 0) = False := eq_false c1
    have c2_ : (a ≥ (38 : Int)) = True := eq_true (by omega)
    go_enter Tryd.func3, Tryd.ntmps3
    go_upto_region 3 with (first | (go_at_call 8; refine (l19_alive.calls 400 true _ ?side1 HA.out).mono ?_; (case side1 => first | exact hL | exact LaidW.below hL (by repeat (first | (with_reducible first | exact HB.out | apply below_alloc | apply pw_below_drewN | apply below_drew1) | exact HB.out))); rintro e w2 ⟨rfl, hb⟩; have n0_ := Aside0.mk (below_step (by repeat (first | (with_reducible first | exact HB.out | apply below_alloc | apply pw_below_drewN | apply below_drew1) | exact HB.out)) hb); clear HB hb; have HB := n0_; clear n0_) | (go_at_call 9; refine (colour_Names.calls 400 N _ ?side1 HNf.out).mono ?_; (case side1 => first | exact hL | exact LaidW.below hL (by repeat (first | (with_reducible first | exact HB.out | apply below_alloc | apply pw_below_drewN | apply below_drew1) | exact HB.out))); rintro e w3 ⟨v4, rfl, ho0, hb⟩; have n0_ := Aside0.mk (below_step (by repeat (first | (with_reducible first | exact HB.out | apply below_alloc | apply pw_below_drewN | apply below_drew1) | exact HB.out)) hb); have n1_ := Aside0.mk (Kd.R_lower ho0 (below_size (by repeat (first | (with_reducible first | exact HB.out | apply below_alloc | apply pw_below_drewN | apply below_drew1) | exact HB.out))) : Kd.R Kd.string 9 w3 w.heap.size (fun _ => True) v4 N); clear HB hb ho0; have HB := n0_; have HN := n1_; clear n0_ n1_; obtain ⟨AN, cN, eN⟩ := Kd.R_slice HN.out; subst eN; rw [hN]))
    go_wp2
    exact bodyPost_ret (v := .bool true) (by simp [results, Tryd.results3, go_sem]) rfl ⟨rfl, HB.out⟩
end Go.Proofs.YthonpnaccjajcaaDoorX
namespace Go.Proofs.YthonpnaccjajcaaDoor.P
open Go.RowKit Go.Proofs.YthonpnaccjajcaaDoorX Go.Proofs.YthonpnaccjajcaaDoorW.PrintWords
def l19_ColourNames.Pure : Prop := l19_alive.f 400 = some true ∧ ∀ q : Nat, q < 38 → ∃ (s : ByteArray) (c0 c1 c2 : Int) (L : List ByteArray), rdOf ByteArray.empty Go.Proofs.YthonpnaccjajcaaDoorC.namesL (q : Int) = s ∧ s.size < 100 ∧ (∀ j, j < s.size → 32 ≤ (byteQ s j).toNat) ∧ colour_Named.f 400 s = some (c0, c1, c2, 255, true) ∧ colour_Named.f 400 (mapAll upB s) = some (c0, c1, c2, 255, true) ∧ colour_Spell.f c0 c1 c2 255 = some L ∧ L.length < 1000 ∧ (∃ m, m < L.length ∧ rdOf ByteArray.empty L (m : Int) = s) ∧ (q = 0 ∨ Op.bytesLess (rdOf ByteArray.empty Go.Proofs.YthonpnaccjajcaaDoorC.namesL ((q : Int) - 1)).data.toList s.data.toList = true)
theorem l19_ColourNames.walk (P : l19_ColourNames.Pure) (a0 : Int) (w : World) (w0 : (Lit.int .i64 a0).wf = true) (hL : LaidW w) :
    Calls Tryd.prog 3 #[.int .i64 a0] w fun e w' => e = .returned (.bool true) ∧ Below w.heap.size w w' := by
  by_cases h : a0 < 0 ∨ 38 ≤ a0
  · exact names_out a0 _ w hL ⟨Go.Proofs.YthonpnaccjajcaaDoorC.names_f⟩ Go.Proofs.YthonpnaccjajcaaDoorC.names_len h ⟨P.1⟩
  · obtain ⟨q, rfl⟩ := Int.eq_ofNat_of_zero_le (show 0 ≤ a0 by omega)
    obtain ⟨s, c0, c1, c2, L, h1, h2, h3, h4, h5, h6, h7, h8, h9⟩ := P.2 q (by omega)
    exact names_in q s _ c0 c1 c2 L w hL ⟨Go.Proofs.YthonpnaccjajcaaDoorC.names_f⟩ Go.Proofs.YthonpnaccjajcaaDoorC.names_len (by omega) ⟨h1⟩ h2 ⟨h3⟩ h4 h5 ⟨h6⟩ h7 ⟨h8⟩ ⟨P.1⟩ ⟨h9⟩
end Go.Proofs.YthonpnaccjajcaaDoor.P
