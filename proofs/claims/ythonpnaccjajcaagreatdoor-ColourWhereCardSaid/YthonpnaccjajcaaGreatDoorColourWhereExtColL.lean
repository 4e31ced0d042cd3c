/- CONTRACT of the reference's Lower ([]byte(s), stores into it, string(b)). -/
import Derived.Test.YthonpnaccjajcaaGreatDoorProg
import Derived.Test.YthonpnaccjajcaaGreatDoorColourWhereWords
import Derived.WalkKit
import Derived.Below
import Derived.Lib.ConvBytes
import Derived.Laws.IdiomStrings
set_option linter.unusedVariables false
namespace Go.Proofs.YthonpnaccjajcaaGreatDoorX
open Go.RowKit Go.Proofs.YthonpnaccjajcaaGreatDoorW.PrintWords
def lowC (c : UInt8) : UInt8 := if 65 ≤ c ∧ c ≤ 90 then c + 32 else c
def byteN (s : ByteArray) (q : Nat) : UInt8 := s.data.toList.getD q 0
def mixAt (s : ByteArray) (j q : Nat) : Int := if q < j then ((lowC (byteN s q)).toNat : Int) else ((byteN s q).toNat : Int)
theorem w64 (j : Nat) (h : j < 140737488355328) : wrap64 ((j : Int) + 1) = ((j + 1 : Nat) : Int) := by unfold wrap64; omega
theorem iOf (x : Int) : intOf (.int .i64 x) = x := rfl
theorem meas {n j : Nat} {x : Int} (hx : x = ((j + 1 : Nat) : Int)) (h : j < n) : n - (intOf (.int .i64 x)).toNat < n - (intOf (.int .i64 (j : Int))).toNat := by
  rw [iOf, iOf, hx, Int.toNat_natCast, Int.toNat_natCast]; omega
structure LowSt (s : ByteArray) (w : World) (j : Nat) (wr : World) : Prop where
  cells : ∀ q, q < s.size → wr.cell? ⟨w.heap.size, q, none⟩ = some (.int .u8 (mixAt s j q))
  free : ∀ q, q < s.size → wr.frozen? ⟨w.heap.size, q, none⟩ = false
  bel : Below w.heap.size w wr
def lowAll (s : ByteArray) : ByteArray := ⟨(s.data.toList.map lowC).toArray⟩
theorem LowSt.start (s : ByteArray) (w : World) : LowSt s w 0 (Lib.bytesWorld w 5 s) := by
  refine ⟨fun q hq => ?_, fun q hq => ?_, bytes_below (Below.refl _ w) (Nat.le_refl _) 5 s⟩
  · rw [Lib.bytesWorld_cell w 5 s q hq]
    simp [mixAt, byteN]
  · simp only [World.frozen?, Lib.bytesWorld_at_new]
    have : q < (Lib.bytesCells w 5 s).size := by
      simp [Lib.bytesCells]; have : q < s.data.size := hq; omega
    simp
    omega
theorem LowSt.step {s : ByteArray} {w : World} {j : Nat} {wr : World} (h : LowSt s w j wr) (hj : j < s.size) {x : Int} (hx : x = mixAt s (j + 1) j) : LowSt s w (j + 1) (wr.setCell ⟨w.heap.size, j, none⟩ (.int .u8 x)) := by
  subst hx
  refine ⟨fun q hq => ?_, fun q hq => by rw [World.frozen?_setCell]; exact h.free q hq, h.bel.setCell (Nat.le_refl _) _⟩
  by_cases e : q = j
  · subst e
    exact World.cell?_setCell_same _ _ _ (h.cells q hq)
  · rw [World.cell?_setCell_other _ _ _ _ (by intro e2; injection e2 with _ e3; exact e e3.symm), h.cells q hq]
    unfold mixAt
    congr 2
    by_cases hlt : q < j
    · rw [if_pos hlt, if_pos (by omega)]
    · rw [if_neg hlt, if_neg (by omega)]
theorem LowSt.keep {s : ByteArray} {w : World} {j : Nat} {wr : World} (h : LowSt s w j wr) (hj : j < s.size) (hx : mixAt s j j = mixAt s (j + 1) j) : LowSt s w (j + 1) wr := by
  refine ⟨fun q hq => ?_, h.free, h.bel⟩
  rw [h.cells q hq]
  by_cases e : q = j
  · subst e; rw [hx]
  · unfold mixAt
    congr 2
    by_cases hlt : q < j
    · rw [if_pos hlt, if_pos (by omega)]
    · rw [if_neg hlt, if_neg (by omega)]
theorem mix_here (s : ByteArray) (j : Nat) : mixAt s j j = ((byteN s j).toNat : Int) := by unfold mixAt; rw [if_neg (by omega)]
theorem mix_next (s : ByteArray) (j : Nat) : mixAt s (j + 1) j = if 65 ≤ mixAt s j j ∧ mixAt s j j ≤ 90 then (mixAt s j j + 32) % 256 else mixAt s j j := by
  rw [mix_here]
  unfold mixAt lowC
  rw [if_pos (by omega)]
  simp only [UInt8.le_iff_toNat_le]
  have h65 : (65 : UInt8).toNat = 65 := rfl
  have h90 : (90 : UInt8).toNat = 90 := rfl
  rw [h65, h90]
  by_cases h : 65 ≤ (byteN s j).toNat ∧ (byteN s j).toNat ≤ 90
  · rw [if_pos h, if_pos (by omega), UInt8.toNat_add]
    have : (32 : UInt8).toNat = 32 := rfl
    rw [this]
    omega
  · rw [if_neg h, if_neg (by omega)]
theorem mix_range (s : ByteArray) (j q : Nat) : 0 ≤ mixAt s j q ∧ mixAt s j q ≤ 255 := by
  unfold mixAt
  have h1 := UInt8.toNat_lt (byteN s q)
  have h2 := UInt8.toNat_lt (lowC (byteN s q))
  split <;> omega
set_option maxHeartbeats 4000000 in
set_option maxRecDepth 100000 in
theorem low13 (s : ByteArray) (hs : s.size < 140737488355328) (w : World) :
    Calls Tryz.prog 70 #[.string s] w fun e w' => e = .returned (.string (lowAll s)) ∧ Below w.heap.size w w' := by
  have HS : Aside0 (s.size < 140737488355328) := Aside0.mk hs
  clear hs
  have hconv : ∀ W, (convert 9 30 (.string s)).run Tryz.prog W = .ok (.slice (some ⟨W.heap.size, 0, none⟩) s.size (grownCap W s.size 0 5)) (Lib.bytesWorld W 5 s) := fun W => Lib.run_convert_string_bytes W 9 30 5 s Tryz.underlying9 Tryz.underlying30 Tryz.underlying5
  have HST0 := Aside0.mk (LowSt.start s w)
  go_enter Tryz.func70, Tryz.ntmps70
  go_wp2
  generalize Lib.bytesWorld w 5 s = W0 at *
  generalize grownCap w s.size 0 5 = cp
  obtain ⟨n, hn⟩ : ∃ n, n = s.size := ⟨_, rfl⟩
  have HNN := Aside0.mk hn
  clear hn
  go_loopw [4] (fun i wr => ∃ j : Nat, j ≤ s.size ∧ i = .int .i64 j ∧ Aside0 (LowSt s w j wr)) (fun i _ => n - (intOf i).toNat)
  case atStart => exact ⟨0, Nat.zero_le _, rfl, HST0⟩
  case round =>
    obtain ⟨j, hj, rfl, HST⟩ := hrel
    by_cases hlt : j < s.size
    · have h1 : ((j : Int) < (s.size : Int)) = True := eq_true (by omega)
      have h2 : (0 ≤ (j : Int)) = True := eq_true (by omega)
      have HW := Aside0.mk (w64 j (by have := HS.out; omega))
      have hc := HST.out.cells j hlt
      have hf := HST.out.free j hlt
      have hr := mix_range s j j
      have hn := mix_next s j
      have HN := Aside0.mk hn
      clear hn
      generalize hx : mixAt s j j = x at *
      have HX := Aside0.mk hx
      clear hx
      by_cases c1 : 65 ≤ x
      · by_cases c2 : x ≤ 90
        · have hi : mixAt s (j + 1) j = x + 32 := by rw [HN.out, if_pos ⟨c1, c2⟩]; omega
          have HI := Aside0.mk hi
          clear hi
          go_wp2
          go_roundw
          case rel => exact ⟨j + 1, by omega, congrArg (Value.int .i64) HW.out, ⟨HST.out.step hlt HI.out.symm⟩⟩
          case measure => exact meas HW.out (by rw [HNN.out]; exact hlt)
        · have hi : mixAt s j j = mixAt s (j + 1) j := by rw [HN.out, if_neg (fun h => c2 h.2), HX.out]
          have HI := Aside0.mk hi
          clear hi
          go_wp2
          go_roundw
          case rel => exact ⟨j + 1, by omega, congrArg (Value.int .i64) HW.out, ⟨HST.out.keep hlt HI.out⟩⟩
          case measure => exact meas HW.out (by rw [HNN.out]; exact hlt)
      · have hi : mixAt s j j = mixAt s (j + 1) j := by rw [HN.out, if_neg (fun h => c1 h.1), HX.out]
        have HI := Aside0.mk hi
        clear hi
        go_wp2
        go_roundw
        case rel => exact ⟨j + 1, by omega, congrArg (Value.int .i64) HW.out, ⟨HST.out.keep hlt HI.out⟩⟩
        case measure => exact meas HW.out (by rw [HNN.out]; exact hlt)
    · obtain rfl : j = s.size := by omega
      have h1 : ((s.size : Int) < (s.size : Int)) = False := eq_false (by omega)
      have hconv2 : (convert 30 9 (.slice (some ⟨w.heap.size, 0, none⟩) s.size cp)).run Tryz.prog wr = .ok (.string (lowAll s)) wr := by
        have hl : (s.data.toList.map lowC).length = s.size := by rw [List.length_map]; rfl
        have := run_convert_bytes_back (P := Tryz.prog) wr 30 9 5 ⟨w.heap.size, 0, none⟩ cp (s.data.toList.map lowC) Tryz.underlying30 Tryz.underlying5 Tryz.underlying9 (fun q hq => by
          have hq' : q < s.size := by rw [hl] at hq; exact hq
          rw [add_plain, HST.out.cells q hq']
          unfold mixAt byteN
          rw [if_pos hq', List.getElem_map]
          have hq2 : q < s.data.toList.length := hq'
          rw [List.getD_eq_getElem?_getD, List.getElem?_eq_getElem hq2]
          rfl)
        rw [hl] at this
        exact this
      go_wp2
      go_ret
      exact ⟨rfl, HST.out.bel⟩
def r13_Lower.f (a0 : ByteArray) : Option ByteArray := if a0.size < 140737488355328 then some (lowAll a0) else none
theorem r13_Lower.calls (a0 r : ByteArray) (w : World) (h : r13_Lower.f a0 = some r) :
    Calls Tryz.prog 70 #[.string a0] w fun e w' => e = .returned (.string r) ∧ Below w.heap.size w w' := by
  unfold r13_Lower.f at h
  split at h
  · rename_i hs
    obtain rfl := Option.some.inj h
    exact low13 a0 hs w
  · cases h
end Go.Proofs.YthonpnaccjajcaaGreatDoorX
