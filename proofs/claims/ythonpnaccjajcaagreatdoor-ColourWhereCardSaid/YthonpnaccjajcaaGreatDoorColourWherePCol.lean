/- Colours, in plain Lean: digits of base 16, what names are, all spellings; over the contracts' own functions. -/
import Derived.Test.YthonpnaccjajcaaGreatDoorColourWhereExtColR
import Derived.Test.YthonpnaccjajcaaGreatDoorColourWhereExtColS
set_option linter.unusedVariables false
set_option linter.unusedSimpArgs false
namespace Go.Proofs.YthonpnaccjajcaaGreatDoorC
open Go.RowKit Go.Proofs.YthonpnaccjajcaaGreatDoorX Go.Proofs.YthonpnaccjajcaaGreatDoor.P Go.Proofs.YthonpnaccjajcaaGreatDoorW.PrintWords Go.Proofs.YthonpnaccjajcaaGreatDoorW.PrintLast Go.Proofs.YthonpnaccjajcaaGreatDoorW.PrintMore
theorem mono_upto {α : Type} {f : Nat → Option α} (h : ∀ k, LeO (f k) (f (k + 1))) {a b : Nat} (hab : a ≤ b) {r : α} (hr : f a = some r) : f b = some r := by
  obtain ⟨d, rfl⟩ := Nat.exists_eq_add_of_le hab
  induction d with
  | zero => exact hr
  | succ d ih => exact h _ r (ih (by omega))
def lowA (t : ByteArray) : ByteArray := ⟨(t.data.toList.map lowB).toArray⟩
theorem lowS_ascii (t : ByteArray) (h : ∀ c ∈ t.data.toList, c.toNat < 128) : lowS t = lowA t := by
  unfold lowS lowA
  rw [mapD_ascii _ h]
def digitsC (a0 : ByteArray) (a1 : Int) : Option (Int × Int × Int × Int) :=
  if asciiL a0.data.toList = true then
    if a1 = 1 ∧ a0.size ≤ 4 then some (digF a0.size (val1 lowA ixS a0))
    else if a1 = 2 ∧ a0.size ≤ 8 ∧ a0.size % 2 = 0 then some (digF (a0.size / 2) (val2 lowA ixS a0)) else none
  else none
theorem extract_ascii (s : ByteArray) (h : asciiL s.data.toList = true) (i j : Nat) : ∀ c ∈ (s.extract i j).data.toList, c.toNat < 128 := by
  intro c hc
  unfold asciiL at h
  rw [List.all_eq_true] at h
  have : c ∈ s.data.toList := by
    rw [ByteArray.data_extract, Array.toList_extract] at hc
    exact List.mem_of_mem_drop (List.mem_of_mem_take hc)
  simpa using h c this
theorem digits_eq (a0 : ByteArray) (a1 : Int) : colour_digits.f a0 a1 = digitsC a0 a1 := by
  unfold colour_digits.f digitsC
  by_cases h : asciiL a0.data.toList = true
  · rw [if_pos h, if_pos h]
    have e1 : val1 lowS ixS a0 = val1 lowA ixS a0 := by
      funext k
      unfold val1
      rw [lowS_ascii _ (extract_ascii a0 h _ _)]
    have e2 : val2 lowS ixS a0 = val2 lowA ixS a0 := by
      funext k
      unfold val2
      rw [lowS_ascii _ (extract_ascii a0 h _ _)]
    rw [e1, e2]
  · rw [if_neg h, if_neg h]
def namedC (k : Nat) (s : ByteArray) : Option (Int × Int × Int × Int × Bool) :=
  (slices_Index_string_string.f k wordsL (lowA s)).bind fun t107 => (if t107 < 0 then (some (0, 0, 0, 0, false)) else (if (Int.tmod t107 2) = 1 then (some (0, 0, 0, 0, false)) else (if 0 ≤ (wrap64 (t107 + 1)) then (if (wrap64 (t107 + 1)) < (wordsL.length : Int) then ((digitsC (rdOf ByteArray.empty wordsL (wrap64 (t107 + 1))) 2).bind fun bt109 => (some (bt109.1, bt109.2.1, bt109.2.2.1, bt109.2.2.2, true))) else (none)) else (none))))
theorem named_eq (k : Nat) (s : ByteArray) (h : ∀ c ∈ s.data.toList, c.toNat < 128) (hs : s.size < 35184372088832) : colour_Named.f k s = namedC k s := by
  have e1 : colour_lower.f s = some (lowA s) := by
    unfold colour_lower.f
    rw [if_pos hs]
    exact congrArg some (lowS_ascii s h)
  have e2 : colour_words.f = some wordsL := rfl
  unfold colour_Named.f namedC
  rw [e2, e1]
  simp only [digits_eq]
  rfl
def namesL : List ByteArray := (List.range 38).map fun i => rdOf ByteArray.empty wordsL ((2 * i : Nat) : Int)
set_option maxRecDepth 100000 in
theorem names_f : colour_Names.f 400 = some namesL := by decide +kernel
theorem names_len : namesL.length = 38 := by unfold namesL; simp
set_option maxRecDepth 100000 in
theorem names_ascii : ∀ j, j < 38 → asciiL (rdOf ByteArray.empty namesL (j : Nat)).data.toList = true ∧ (rdOf ByteArray.empty namesL (j : Nat)).size < 10 := by decide +kernel
theorem rd_past (N : List ByteArray) (j : Nat) (h : N.length ≤ j) : rdOf ByteArray.empty N (j : Int) = ByteArray.empty := by
  unfold rdOf
  rw [Int.toNat_natCast, List.getD_eq_getElem?_getD, List.getElem?_eq_none h]
  rfl
theorem names_at (j : Nat) : colour_Named.f 400 (rdOf ByteArray.empty namesL (j : Int)) = namedC 400 (rdOf ByteArray.empty namesL (j : Int)) := by
  by_cases h : j < 38
  · obtain ⟨h1, h2⟩ := names_ascii j h
    refine named_eq 400 _ (fun c hc => ?_) (by omega)
    unfold asciiL at h1
    rw [List.all_eq_true] at h1
    simpa using h1 c hc
  · rw [rd_past _ _ (by rw [names_len]; omega)]
    exact named_eq 400 _ (fun c hc => absurd (show c ∈ ([] : List UInt8) from hc) List.not_mem_nil) (by decide)
def p4C (j : Nat) : Int × Int × Int × Int × Bool := (namedC 400 (rdOf ByteArray.empty namesL (j : Int))).getD (0, 0, 0, 0, false)
theorem p4_eq : p4 namesL = p4C := by
  funext j
  unfold p4 p4C
  rw [names_at]
set_option maxRecDepth 100000 in
theorem ok_names' : ∀ j, j < 38 → (namedC 400 (rdOf ByteArray.empty namesL (j : Nat))).isSome = true := by decide +kernel
theorem ok_names : okN namesL := by
  refine ⟨by rw [names_len]; omega, fun j hj => ?_⟩
  rw [names_len] at hj
  rw [names_at]
  exact ok_names' j hj
theorem spell_eq (c0 c1 c2 c3 : Int) (h3 : c3 = 255) : colour_Spell.f c0 c1 c2 c3 = some (if rngb (cAt c0 c1 c2 c3) (colour_Spell.n c3) = true then (if dblK (cAt c0 c1 c2 c3) (colour_Spell.n c3) = true then [shortK (cAt c0 c1 c2 c3) (colour_Spell.n c3)] else []) ++ [longK (cAt c0 c1 c2 c3) (colour_Spell.n c3)] ++ LK4 namesL p4C c0 c1 c2 c3 38 else []) := by
  unfold colour_Spell.f
  rw [if_pos h3, names_f]
  show (if okN namesL then _ else _) = _
  rw [if_pos ok_names, p4_eq, names_len]
set_option maxRecDepth 100000 in
theorem spell_white : colour_Spell.f 255 255 255 255 = some [⟨#[35, 102, 102, 102]⟩, ⟨#[35, 102, 102, 102, 102, 102, 102]⟩, ⟨#[119, 104, 105, 116, 101]⟩] := by
  rw [spell_eq _ _ _ _ rfl]
  decide +kernel
set_option maxRecDepth 100000 in
theorem named_red (k : Nat) (hk : 400 ≤ k) : colour_Named.f k ⟨#[82, 69, 68]⟩ = some (255, 0, 0, 255, true) := by
  have h : colour_Named.f 400 ⟨#[82, 69, 68]⟩ = some (255, 0, 0, 255, true) := by
    rw [named_eq 400 _ (by decide) (by decide)]
    decide +kernel
  exact mono_upto (fun k => colour_Named.mono _ k) hk h
end Go.Proofs.YthonpnaccjajcaaGreatDoorC
