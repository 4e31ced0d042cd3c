/- ColourNames: each name is a colour, spelled so, in small letters and great ones, and they rise. -/
import Derived.Test.YthonpnaccjajcaaDoorColourNamesColNames
import Derived.Test.YthonpnaccjajcaaDoorColourNamesPx4
set_option linter.unusedVariables false
set_option linter.unusedSimpArgs false
namespace Go.Proofs.YthonpnaccjajcaaDoor.Pure
open Go.RowKit Go.Proofs.YthonpnaccjajcaaDoorX Go.Proofs.YthonpnaccjajcaaDoorC Go.Proofs.YthonpnaccjajcaaDoor.P Go.Proofs.YthonpnaccjajcaaDoorW.PrintWords Go.Proofs.YthonpnaccjajcaaDoorW.PrintLast Go.Proofs.YthonpnaccjajcaaDoorW.PrintMore
theorem names_alive : l19_alive.f 400 = some true := by
  unfold l19_alive.f
  rw [spell_white, named_red 400 (by omega)]
  decide +kernel
set_option maxRecDepth 100000 in
theorem up1 : ∀ q : Nat, q < 38 → (decide (namedC 400 (rdOf ByteArray.empty namesL (q : Int)) = some (p4C q)) && (p4C q).2.2.2.2) = true := by decide +kernel
set_option maxRecDepth 100000 in
theorem up2 : ∀ q : Nat, q < 38 → (decide (namedC 400 (mapAll upB (rdOf ByteArray.empty namesL (q : Int))) = some (p4C q)) && asciiL (mapAll upB (rdOf ByteArray.empty namesL (q : Int))).data.toList) = true := by decide +kernel
set_option maxRecDepth 100000 in
theorem up3 : ∀ q : Nat, q < 38 → (rdOf ByteArray.empty namesL (q : Int)).data.toList.all (fun c => decide (32 ≤ c.toNat)) = true := by decide +kernel
set_option maxRecDepth 100000 in
theorem up4 : ∀ q : Nat, q < 38 → q = 0 ∨ Op.bytesLess (rdOf ByteArray.empty namesL ((q : Int) - 1)).data.toList (rdOf ByteArray.empty namesL (q : Int)).data.toList = true := by decide +kernel
theorem up_size (f : UInt8 → UInt8) (s : ByteArray) : (mapAll f s).size = s.size := by
  unfold mapAll
  show (s.data.toList.map f).toArray.size = s.size
  rw [List.size_toArray, List.length_map]
  rfl
theorem at_of_mem {L : List ByteArray} {s : ByteArray} (h : s ∈ L) : ∃ m, m < L.length ∧ rdOf ByteArray.empty L (m : Int) = s := by
  obtain ⟨m, hm, he⟩ := List.getElem_of_mem h
  refine ⟨m, hm, ?_⟩
  unfold rdOf
  rw [Int.toNat_natCast, List.getD_eq_getElem?_getD, List.getElem?_eq_getElem hm]
  exact he
theorem ColourNames : l19_ColourNames.Pure := by
  refine ⟨names_alive, fun q hq => ?_⟩
  obtain ⟨h1, h2⟩ := Bool.and_eq_true_iff.1 (up1 q hq)
  obtain ⟨h3, h4⟩ := Bool.and_eq_true_iff.1 (up2 q hq)
  have h1 := of_decide_eq_true h1
  have h3 := of_decide_eq_true h3
  have h5 := up3 q hq
  have h6 := up4 q hq
  obtain ⟨ha, hs⟩ := names_ascii q hq
  obtain ⟨f1, f2, f3, f4⟩ := name_facts q hq
  obtain ⟨L, g1, g2, g3, g4, g5⟩ := spell_long (p4C q).1 (p4C q).2.1 (p4C q).2.2.1 (p4C q).2.2.2.1 (by rw [f2, n255]; exact rng3 _ _ _ _ f3)
  have e : p4C q = ((p4C q).1, (p4C q).2.1, (p4C q).2.2.1, 255, true) := by
    rw [← f2, ← h2]
  rw [f2] at g1 g5
  refine ⟨_, (p4C q).1, (p4C q).2.1, (p4C q).2.2.1, L, rfl, by omega, fun j hj => ?_, ?_, ?_, g1, g2, at_of_mem (g5 _ ?_), h6⟩
  · rw [List.all_eq_true] at h5
    have hl : j < (rdOf ByteArray.empty namesL (q : Int)).data.toList.length := hj
    have := h5 _ (List.getElem_mem hl)
    unfold byteQ
    rw [List.getD_eq_getElem?_getD, List.getElem?_eq_getElem hl]
    simpa using this
  · rw [names_at, h1, ← e]
  · rw [named_eq 400 _ (fun c hc => ?_) (by rw [up_size]; omega), h3, ← e]
    unfold asciiL at h4
    rw [List.all_eq_true] at h4
    simpa using h4 c hc
  · refine LK4_mem _ _ _ _ _ _ q ?_ 38 hq
    rw [f2]
    simp
end Go.Proofs.YthonpnaccjajcaaDoor.Pure
