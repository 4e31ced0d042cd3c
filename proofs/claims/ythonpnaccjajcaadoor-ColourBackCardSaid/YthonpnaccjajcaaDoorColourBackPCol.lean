/- Colours, in plain Lean: digits of base 16, what names are, all spellings; over the contracts' own functions. -/
import Derived.Test.YthonpnaccjajcaaDoorColourBackExtCol
import Derived.Test.YthonpnaccjajcaaDoorColourBackExtColR
import Derived.Test.YthonpnaccjajcaaDoorColourBackExtColS
import Derived.Test.YthonpnaccjajcaaDoorColourBackPx3
import Derived.Test.YthonpnaccjajcaaDoorColourBackPx26
set_option linter.unusedVariables false
set_option linter.unusedSimpArgs false
namespace Go.Proofs.YthonpnaccjajcaaDoorC
open Go.RowKit Go.Proofs.YthonpnaccjajcaaDoorX Go.Proofs.YthonpnaccjajcaaDoor.P Go.Proofs.YthonpnaccjajcaaDoorW.PrintWords Go.Proofs.YthonpnaccjajcaaDoorW.PrintLast Go.Proofs.YthonpnaccjajcaaDoorW.PrintMore
theorem mono_upto {α : Type} {f : Nat → Option α} (h : ∀ k, LeO (f k) (f (k + 1))) {a b : Nat} (hab : a ≤ b) {r : α} (hr : f a = some r) : f b = some r := by
  obtain ⟨d, rfl⟩ := Nat.exists_eq_add_of_le hab
  induction d with
  | zero => exact hr
  | succ d ih => exact h _ r (ih (by omega))
def ixB (x : UInt8) : Int := ixS ((lowB x).toNat : Int)
def lowA (t : ByteArray) : ByteArray := ⟨(t.data.toList.map lowB).toArray⟩
theorem lowS_ascii (t : ByteArray) (h : ∀ c ∈ t.data.toList, c.toNat < 128) : lowS t = lowA t := by
  unfold lowS lowA
  rw [mapD_ascii _ h]
theorem val1_at (s : ByteArray) (k : Nat) (x : UInt8) (hx : s.extract k (k + 1) = ⟨#[x]⟩) (h : x.toNat < 128) : val1 lowS ixS s k = ixB x * 17 := by
  unfold val1
  rw [hx, lowS_ascii _ (by intro c hc; simp at hc; subst hc; exact h)]
  rfl
theorem val2_at (s : ByteArray) (k : Nat) (x y : UInt8) (hx : s.extract (k * 2) (k * 2 + 2) = ⟨#[x, y]⟩) (h : x.toNat < 128) (h2 : y.toNat < 128) : val2 lowS ixS s k = ixB x * 16 + ixB y := by
  unfold val2
  rw [hx, lowS_ascii _ (by intro c hc; simp at hc; rcases hc with rfl | rfl <;> assumption)]
  rfl
theorem asciiL_of (l : List UInt8) (h : ∀ c ∈ l, c.toNat < 128) : asciiL l = true := by
  unfold asciiL
  rw [List.all_eq_true]
  intro c hc
  simpa using h c hc
theorem digits3 (x y z : UInt8) (hx : x.toNat < 128) (hy : y.toNat < 128) (hz : z.toNat < 128) : colour_digits.f ⟨#[x, y, z]⟩ 1 = some (ixB x * 17, ixB y * 17, ixB z * 17, 255) := by
  unfold colour_digits.f
  rw [if_pos (asciiL_of _ (by intro c hc; simp at hc; rcases hc with rfl | rfl | rfl <;> assumption)), if_pos ⟨rfl, (show (3 : Nat) ≤ 4 by decide)⟩]
  refine congrArg some ?_
  show (arrAt (val1 lowS ixS _) 3 0, arrAt (val1 lowS ixS _) 3 1, arrAt (val1 lowS ixS _) 3 2, arrAt (val1 lowS ixS _) 3 3) = _
  simp only [arrAt]
  rw [val1_at _ 0 x rfl hx, val1_at _ 1 y rfl hy, val1_at _ 2 z rfl hz]
  rfl
theorem digits4 (x y z u : UInt8) (hx : x.toNat < 128) (hy : y.toNat < 128) (hz : z.toNat < 128) (hu : u.toNat < 128) : colour_digits.f ⟨#[x, y, z, u]⟩ 1 = some (ixB x * 17, ixB y * 17, ixB z * 17, ixB u * 17) := by
  unfold colour_digits.f
  rw [if_pos (asciiL_of _ (by intro c hc; simp at hc; rcases hc with rfl | rfl | rfl | rfl <;> assumption)), if_pos ⟨rfl, (show (4 : Nat) ≤ 4 by decide)⟩]
  refine congrArg some ?_
  show (arrAt (val1 lowS ixS _) 4 0, arrAt (val1 lowS ixS _) 4 1, arrAt (val1 lowS ixS _) 4 2, arrAt (val1 lowS ixS _) 4 3) = _
  simp only [arrAt]
  rw [val1_at _ 0 x rfl hx, val1_at _ 1 y rfl hy, val1_at _ 2 z rfl hz, val1_at _ 3 u rfl hu]
  rfl
theorem digits6 (x x' y y' z z' : UInt8) (hx : x.toNat < 128) (hy : y.toNat < 128) (hz : z.toNat < 128) (hx' : x'.toNat < 128) (hy' : y'.toNat < 128) (hz' : z'.toNat < 128) : colour_digits.f ⟨#[x, x', y, y', z, z']⟩ 2 = some (ixB x * 16 + ixB x', ixB y * 16 + ixB y', ixB z * 16 + ixB z', 255) := by
  unfold colour_digits.f
  rw [if_pos (asciiL_of _ (by intro c hc; simp at hc; rcases hc with rfl | rfl | rfl | rfl | rfl | rfl <;> assumption)), if_neg (fun h => absurd h.1 (by decide)), if_pos ⟨rfl, (show (6 : Nat) ≤ 8 by decide), (show (6 : Nat) % 2 = 0 from rfl)⟩]
  refine congrArg some ?_
  show digF (6 / 2) (val2 lowS ixS _) = _
  rw [show (6 : Nat) / 2 = 3 from rfl]
  show (arrAt (val2 lowS ixS _) 3 0, arrAt (val2 lowS ixS _) 3 1, arrAt (val2 lowS ixS _) 3 2, arrAt (val2 lowS ixS _) 3 3) = _
  simp only [arrAt]
  rw [val2_at _ 0 x x' rfl hx hx', val2_at _ 1 y y' rfl hy hy', val2_at _ 2 z z' rfl hz hz']
  rfl
theorem digits8 (x x' y y' z z' u u' : UInt8) (hx : x.toNat < 128) (hy : y.toNat < 128) (hz : z.toNat < 128) (hu : u.toNat < 128) (hx' : x'.toNat < 128) (hy' : y'.toNat < 128) (hz' : z'.toNat < 128) (hu' : u'.toNat < 128) : colour_digits.f ⟨#[x, x', y, y', z, z', u, u']⟩ 2 = some (ixB x * 16 + ixB x', ixB y * 16 + ixB y', ixB z * 16 + ixB z', ixB u * 16 + ixB u') := by
  unfold colour_digits.f
  rw [if_pos (asciiL_of _ (by intro c hc; simp at hc; rcases hc with rfl | rfl | rfl | rfl | rfl | rfl | rfl | rfl <;> assumption)), if_neg (fun h => absurd h.1 (by decide)), if_pos ⟨rfl, (show (8 : Nat) ≤ 8 by decide), (show (8 : Nat) % 2 = 0 from rfl)⟩]
  refine congrArg some ?_
  show digF (8 / 2) (val2 lowS ixS _) = _
  rw [show (8 : Nat) / 2 = 4 from rfl]
  show (arrAt (val2 lowS ixS _) 4 0, arrAt (val2 lowS ixS _) 4 1, arrAt (val2 lowS ixS _) 4 2, arrAt (val2 lowS ixS _) 4 3) = _
  simp only [arrAt]
  rw [val2_at _ 0 x x' rfl hx hx', val2_at _ 1 y y' rfl hy hy', val2_at _ 2 z z' rfl hz hz', val2_at _ 3 u u' rfl hu hu']
  rfl
def digitsC (a0 : ByteArray) (a1 : Int) : Option (Int × Int × Int × Int) :=
  if asciiL a0.data.toList = true then
    if a1 = 1 ∧ a0.size ≤ 4 then some (digF a0.size (val1 lowA ixS a0))
    else if a1 = 2 ∧ a0.size ≤ 8 ∧ a0.size % 2 = 0 then some (digF (a0.size / 2) (val2 lowA ixS a0)) else none
  else none
theorem extract_ascii (s : ByteArray) (h : asciiL s.data.toList = true) (i j : Nat) : ∀ c ∈ (s.extract i j).data.toList, c.toNat < 128 := by
  intro c hc
  unfold asciiL at h
  rw [List.all_eq_true] at h
  have : c ∈ s.data.toList := by
    rw [ByteArray.data_extract, Array.toList_extract] at hc
    exact List.mem_of_mem_drop (List.mem_of_mem_take hc)
  simpa using h c this
theorem digits_eq (a0 : ByteArray) (a1 : Int) : colour_digits.f a0 a1 = digitsC a0 a1 := by
  unfold colour_digits.f digitsC
  by_cases h : asciiL a0.data.toList = true
  · rw [if_pos h, if_pos h]
    have e1 : val1 lowS ixS a0 = val1 lowA ixS a0 := by
      funext k
      unfold val1
      rw [lowS_ascii _ (extract_ascii a0 h _ _)]
    have e2 : val2 lowS ixS a0 = val2 lowA ixS a0 := by
      funext k
      unfold val2
      rw [lowS_ascii _ (extract_ascii a0 h _ _)]
    rw [e1, e2]
  · rw [if_neg h, if_neg h]
def namedC (k : Nat) (s : ByteArray) : Option (Int × Int × Int × Int × Bool) :=
  (slices_Index_string_string.f k wordsL (lowA s)).bind fun t107 => (if t107 < 0 then (some (0, 0, 0, 0, false)) else (if (Int.tmod t107 2) = 1 then (some (0, 0, 0, 0, false)) else (if 0 ≤ (wrap64 (t107 + 1)) then (if (wrap64 (t107 + 1)) < (wordsL.length : Int) then ((digitsC (rdOf ByteArray.empty wordsL (wrap64 (t107 + 1))) 2).bind fun bt109 => (some (bt109.1, bt109.2.1, bt109.2.2.1, bt109.2.2.2, true))) else (none)) else (none))))
theorem named_eq (k : Nat) (s : ByteArray) (h : ∀ c ∈ s.data.toList, c.toNat < 128) (hs : s.size < 35184372088832) : colour_Named.f k s = namedC k s := by
  have e1 : colour_lower.f s = some (lowA s) := by
    unfold colour_lower.f
    rw [if_pos hs]
    exact congrArg some (lowS_ascii s h)
  have e2 : colour_words.f = some wordsL := rfl
  unfold colour_Named.f namedC
  rw [e2, e1]
  simp only [digits_eq]
  rfl
def namesL : List ByteArray := (List.range 38).map fun i => rdOf ByteArray.empty wordsL ((2 * i : Nat) : Int)
set_option maxRecDepth 100000 in
theorem names_f : colour_Names.f 400 = some namesL := by decide +kernel
theorem names_len : namesL.length = 38 := by unfold namesL; simp
set_option maxRecDepth 100000 in
theorem names_ascii : ∀ j, j < 38 → asciiL (rdOf ByteArray.empty namesL (j : Nat)).data.toList = true ∧ (rdOf ByteArray.empty namesL (j : Nat)).size < 10 := by decide +kernel
theorem rd_past (N : List ByteArray) (j : Nat) (h : N.length ≤ j) : rdOf ByteArray.empty N (j : Int) = ByteArray.empty := by
  unfold rdOf
  rw [Int.toNat_natCast, List.getD_eq_getElem?_getD, List.getElem?_eq_none h]
  rfl
theorem names_at (j : Nat) : colour_Named.f 400 (rdOf ByteArray.empty namesL (j : Int)) = namedC 400 (rdOf ByteArray.empty namesL (j : Int)) := by
  by_cases h : j < 38
  · obtain ⟨h1, h2⟩ := names_ascii j h
    refine named_eq 400 _ (fun c hc => ?_) (by omega)
    unfold asciiL at h1
    rw [List.all_eq_true] at h1
    simpa using h1 c hc
  · rw [rd_past _ _ (by rw [names_len]; omega)]
    exact named_eq 400 _ (fun c hc => absurd (show c ∈ ([] : List UInt8) from hc) List.not_mem_nil) (by decide)
def p4C (j : Nat) : Int × Int × Int × Int × Bool := (namedC 400 (rdOf ByteArray.empty namesL (j : Int))).getD (0, 0, 0, 0, false)
theorem p4_eq : p4 namesL = p4C := by
  funext j
  unfold p4 p4C
  rw [names_at]
set_option maxRecDepth 100000 in
theorem ok_names' : ∀ j, j < 38 → (namedC 400 (rdOf ByteArray.empty namesL (j : Nat))).isSome = true := by decide +kernel
theorem ok_names : okN namesL := by
  refine ⟨by rw [names_len]; omega, fun j hj => ?_⟩
  rw [names_len] at hj
  rw [names_at]
  exact ok_names' j hj
theorem spell_eq (c0 c1 c2 c3 : Int) : colour_Spell.f c0 c1 c2 c3 = some (if rngb (cAt c0 c1 c2 c3) (colour_Spell.n c3) = true then (if dblK (cAt c0 c1 c2 c3) (colour_Spell.n c3) = true then [shortK (cAt c0 c1 c2 c3) (colour_Spell.n c3)] else []) ++ [longK (cAt c0 c1 c2 c3) (colour_Spell.n c3)] ++ LK4 namesL p4C c0 c1 c2 c3 38 else []) := by
  unfold colour_Spell.f
  rw [names_f]
  show (if okN namesL then _ else _) = _
  rw [if_pos ok_names, p4_eq, names_len]
set_option maxRecDepth 100000 in
theorem spell_white : colour_Spell.f 255 255 255 255 = some [⟨#[35, 102, 102, 102]⟩, ⟨#[35, 102, 102, 102, 102, 102, 102]⟩, ⟨#[119, 104, 105, 116, 101]⟩] := by
  rw [spell_eq]
  decide +kernel
set_option maxRecDepth 100000 in
theorem named_red (k : Nat) (hk : 400 ≤ k) : colour_Named.f k ⟨#[82, 69, 68]⟩ = some (255, 0, 0, 255, true) := by
  have h : colour_Named.f 400 ⟨#[82, 69, 68]⟩ = some (255, 0, 0, 255, true) := by
    rw [named_eq 400 _ (by decide) (by decide)]
    decide +kernel
  exact mono_upto (fun k => colour_Named.mono _ k) hk h
theorem tl_iff (s t : ByteArray) : s.toList = t.toList ↔ s = t := by
  refine ⟨fun h => ?_, fun h => by rw [h]⟩
  rw [Lib.toList_data, Lib.toList_data] at h
  cases s; cases t
  simpa [Array.toList_inj] using h
theorem LK4_short (N : List ByteArray) (P4 : Nat → Int × Int × Int × Int × Bool) (c0 c1 c2 c3 : Int) : ∀ n, (LK4 N P4 c0 c1 c2 c3 n).length ≤ n := LK4_len N P4 c0 c1 c2 c3
theorem n255 : colour_Spell.n 255 = 3 := rfl
theorem n_other (c : Int) (h : c ≠ 255) : colour_Spell.n c = 4 := if_neg h
theorem rng3 (c0 c1 c2 c3 : Int) (h : (0 ≤ c0 ∧ c0 ≤ 255) ∧ (0 ≤ c1 ∧ c1 ≤ 255) ∧ (0 ≤ c2 ∧ c2 ≤ 255)) : rngb (cAt c0 c1 c2 c3) 3 = true := by
  rw [rngb_iff]
  intro j hj
  match j, hj with
  | 0, _ => exact h.1
  | 1, _ => exact h.2.1
  | 2, _ => exact h.2.2
theorem rng4 (c0 c1 c2 c3 : Int) (h : (0 ≤ c0 ∧ c0 ≤ 255) ∧ (0 ≤ c1 ∧ c1 ≤ 255) ∧ (0 ≤ c2 ∧ c2 ≤ 255) ∧ (0 ≤ c3 ∧ c3 ≤ 255)) : rngb (cAt c0 c1 c2 c3) 4 = true := by
  rw [rngb_iff]
  intro j hj
  match j, hj with
  | 0, _ => exact h.1
  | 1, _ => exact h.2.1
  | 2, _ => exact h.2.2.1
  | 3, _ => exact h.2.2.2
end Go.Proofs.YthonpnaccjajcaaDoorC
