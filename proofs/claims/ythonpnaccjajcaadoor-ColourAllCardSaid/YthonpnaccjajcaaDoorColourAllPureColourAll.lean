/- ColourAll: whatever token is a colour, its text in small letters is one of the spellings of it. -/
import Derived.Test.YthonpnaccjajcaaDoorColourAllPCol
import Derived.Test.YthonpnaccjajcaaDoorColourAllExtColL
import Derived.Test.YthonpnaccjajcaaDoorColourAllPureColourGreat
import Derived.Test.YthonpnaccjajcaaDoorColourAllPx5
import Derived.Test.YthonpnaccjajcaaDoorColourAllPx4
import Derived.Test.YthonpnaccjajcaaDoorColourAllPx2
set_option linter.unusedVariables false
set_option linter.unusedSimpArgs false
namespace Go.Proofs.YthonpnaccjajcaaDoor.Pure
open Go.RowKit Go.Proofs.YthonpnaccjajcaaDoorX Go.Proofs.YthonpnaccjajcaaDoorC Go.Proofs.YthonpnaccjajcaaDoor.P Go.Proofs.YthonpnaccjajcaaDoorW.PrintWords Go.Proofs.YthonpnaccjajcaaDoorW.PrintLast Go.Proofs.YthonpnaccjajcaaDoorW.PrintMore
theorem tl_iff (s t : ByteArray) : s.toList = t.toList ↔ s = t := by
  refine ⟨fun h => ?_, fun h => by rw [h]⟩
  rw [Lib.toList_data, Lib.toList_data] at h
  cases s; cases t
  simpa [Array.toList_inj] using h
structure Hx (x : UInt8) (n : Int) : Prop where
  n0 : 0 ≤ n
  n1 : n ≤ 15
  x7 : x.toNat < 128
  v : ixB x = n
  d : dgt n = ⟨#[lowC x]⟩
theorem hx_all : ∀ m : Nat, m < 256 → hexB (UInt8.ofNat m) = true → 0 ≤ ixB (UInt8.ofNat m) ∧ ixB (UInt8.ofNat m) ≤ 15 ∧ (UInt8.ofNat m).toNat < 128 ∧ dgt (ixB (UInt8.ofNat m)) = ⟨#[lowC (UInt8.ofNat m)]⟩ := by decide +kernel
theorem hx_of (x : UInt8) (h : hexB x = true) : ∃ n, Hx x n := by
  have e : UInt8.ofNat x.toNat = x := UInt8.ofNat_toNat
  have := hx_all x.toNat (UInt8.toNat_lt x)
  rw [e] at this
  obtain ⟨h1, h2, h3, h4⟩ := this h
  exact ⟨ixB x, h1, h2, h3, rfl, h4⟩
theorem all_loop (x0 : ByteArray) (x1 : Bool) (p : ByteArray) (L : List ByteArray) (c0 c1 c2 c3 : Int) (hL : L.length < 1000) : ∀ (d i : Nat) (f : Bool) (k : Nat), L.length = i + d → d < k → (f = true ∨ p ∈ L.drop i) ∨ (x1 = true ∧ c3 = 255 ∧ (x0.size = 4 ∨ x0.size = 8)) →
    l19_ColourAll.l0 k x0 x1 p L f (i : Int) c0 c1 c2 c3 = some true
  | 0, i, f, k + 1, hi, hk, h => by
    unfold l19_ColourAll.l0
    rw [if_neg (by omega)]
    cases f with
    | true => rw [if_pos rfl]
    | false =>
      rw [if_neg (by decide)]
      rcases h with (h | h) | ⟨rfl, h3, h⟩
      · cases h
      · rw [List.drop_eq_nil_of_le (by omega)] at h; exact absurd h List.not_mem_nil
      · rw [if_pos rfl, if_pos h3]
        rcases h with h | h
        · rw [if_pos (show (x0.size : Int) = 4 by omega)]
        · rw [if_neg (show ¬ (x0.size : Int) = 4 by omega), show ((x0.size : Int) == 8) = true by rw [beq_iff_eq]; omega]
  | d + 1, i, f, k + 1, hi, hk, h => by
    unfold l19_ColourAll.l0
    have hlt : i < L.length := by omega
    have hw : wrap64 ((i : Int) + 1) = ((i + 1 : Nat) : Int) := by unfold wrap64; omega
    have hd : L.drop i = L[i] :: L.drop (i + 1) := List.drop_eq_getElem_cons hlt
    have hr : rdOf ByteArray.empty L (i : Int) = L[i] := by
      unfold rdOf
      rw [Int.toNat_natCast, List.getD_eq_getElem?_getD, List.getElem?_eq_getElem hlt]
      rfl
    rw [if_pos (by omega), hw]
    cases f with
    | true => rw [if_pos rfl]; exact all_loop x0 x1 p L c0 c1 c2 c3 hL d (i + 1) true k (by omega) (by omega) (.inl (.inl rfl))
    | false =>
      rw [if_neg (by decide), if_pos (by omega), hr]
      refine all_loop x0 x1 p L c0 c1 c2 c3 hL d (i + 1) _ k (by omega) (by omega) ?_
      rcases h with (h | h) | h
      · cases h
      · rw [hd, List.mem_cons] at h
        rcases h with h | h
        · refine .inl (.inl ?_); rw [beq_iff_eq, h]
        · exact .inl (.inr h)
      · exact .inr h
theorem all_found (x0 : ByteArray) (x1 : Bool) (p : ByteArray) (L : List ByteArray) (c0 c1 c2 c3 : Int) (hL : L.length < 1000) (hp : p ∈ L) : l19_ColourAll.l0 1001 x0 x1 p L false 0 c0 c1 c2 c3 = some true :=
  all_loop x0 x1 p L c0 c1 c2 c3 hL L.length 0 false 1001 (by omega) (by omega) (.inl (.inr hp))
theorem all_four (x0 : ByteArray) (p : ByteArray) (L : List ByteArray) (c0 c1 c2 c3 : Int) (hL : L.length < 1000) (h3 : c3 = 255) (h4 : x0.size = 4 ∨ x0.size = 8) : l19_ColourAll.l0 1001 x0 true p L false 0 c0 c1 c2 c3 = some true :=
  all_loop x0 true p L c0 c1 c2 c3 hL L.length 0 false 1001 (by omega) (by omega) (.inr ⟨rfl, h3, h4⟩)
theorem LK4_short (N : List ByteArray) (P4 : Nat → Int × Int × Int × Int × Bool) (c0 c1 c2 c3 : Int) : ∀ n, (LK4 N P4 c0 c1 c2 c3 n).length ≤ n := LK4_len N P4 c0 c1 c2 c3
theorem LK4_mem (N : List ByteArray) (P4 : Nat → Int × Int × Int × Int × Bool) (c0 c1 c2 c3 : Int) (j : Nat) (hj : ((P4 j).1 == c0 && ((P4 j).2.1 == c1 && ((P4 j).2.2.1 == c2 && ((P4 j).2.2.2.1 == c3)))) = true) : ∀ n, j < n → rdOf ByteArray.empty N (j : Int) ∈ LK4 N P4 c0 c1 c2 c3 n
  | n + 1, h => by
    simp only [LK4]
    by_cases e : j = n
    · subst e
      rw [if_pos hj]
      exact List.mem_append_right _ (List.mem_singleton.2 rfl)
    · have ih := LK4_mem N P4 c0 c1 c2 c3 j hj n (by omega)
      split
      · exact List.mem_append_left _ ih
      · exact ih
theorem spell_long (c0 c1 c2 c3 : Int) (hr : rngb (cAt c0 c1 c2 c3) (colour_Spell.n c3) = true) : ∃ L, colour_Spell.f c0 c1 c2 c3 = some L ∧ L.length < 1000 ∧ longK (cAt c0 c1 c2 c3) (colour_Spell.n c3) ∈ L ∧ (dblK (cAt c0 c1 c2 c3) (colour_Spell.n c3) = true → shortK (cAt c0 c1 c2 c3) (colour_Spell.n c3) ∈ L) ∧ ∀ q ∈ LK4 namesL p4C c0 c1 c2 c3 38, q ∈ L := by
  refine ⟨_, spell_eq c0 c1 c2 c3, ?_, ?_, ?_, ?_⟩
  · rw [if_pos hr]
    have := LK4_short namesL p4C c0 c1 c2 c3 38
    rw [List.length_append, List.length_append]
    split <;> simp <;> omega
  · rw [if_pos hr]; simp
  · intro hd; rw [if_pos hr, if_pos hd]; simp
  · intro q hq; rw [if_pos hr]; simp [hq]
theorem n255 : colour_Spell.n 255 = 3 := rfl
theorem n_other (c : Int) (h : c ≠ 255) : colour_Spell.n c = 4 := if_neg h
theorem rng3 (c0 c1 c2 c3 : Int) (h : (0 ≤ c0 ∧ c0 ≤ 255) ∧ (0 ≤ c1 ∧ c1 ≤ 255) ∧ (0 ≤ c2 ∧ c2 ≤ 255)) : rngb (cAt c0 c1 c2 c3) 3 = true := by
  rw [rngb_iff]
  intro j hj
  match j, hj with
  | 0, _ => exact h.1
  | 1, _ => exact h.2.1
  | 2, _ => exact h.2.2
theorem rng4 (c0 c1 c2 c3 : Int) (h : (0 ≤ c0 ∧ c0 ≤ 255) ∧ (0 ≤ c1 ∧ c1 ≤ 255) ∧ (0 ≤ c2 ∧ c2 ≤ 255) ∧ (0 ≤ c3 ∧ c3 ≤ 255)) : rngb (cAt c0 c1 c2 c3) 4 = true := by
  rw [rngb_iff]
  intro j hj
  match j, hj with
  | 0, _ => exact h.1
  | 1, _ => exact h.2.1
  | 2, _ => exact h.2.2.1
  | 3, _ => exact h.2.2.2
theorem size3 (s : ByteArray) (h : s.size = 3) : ∃ x y z, s = ⟨#[x, y, z]⟩ := by
  obtain ⟨⟨l⟩⟩ := s
  match l, h with
  | [x, y, z], _ => exact ⟨x, y, z, rfl⟩
theorem size4 (s : ByteArray) (h : s.size = 4) : ∃ x y z u, s = ⟨#[x, y, z, u]⟩ := by
  obtain ⟨⟨l⟩⟩ := s
  match l, h with
  | [x, y, z, u], _ => exact ⟨x, y, z, u, rfl⟩
theorem size6 (s : ByteArray) (h : s.size = 6) : ∃ x x' y y' z z', s = ⟨#[x, x', y, y', z, z']⟩ := by
  obtain ⟨⟨l⟩⟩ := s
  match l, h with
  | [x, x', y, y', z, z'], _ => exact ⟨x, x', y, y', z, z', rfl⟩
theorem size8 (s : ByteArray) (h : s.size = 8) : ∃ x x' y y' z z' u u', s = ⟨#[x, x', y, y', z, z', u, u']⟩ := by
  obtain ⟨⟨l⟩⟩ := s
  match l, h with
  | [x, x', y, y', z, z', u, u'], _ => exact ⟨x, x', y, y', z, z', u, u', rfl⟩
def Tail (s p : ByteArray) (hash : Bool) (c : Int × Int × Int × Int) : Prop := ∃ L, colour_Spell.f c.1 c.2.1 c.2.2.1 c.2.2.2 = some L ∧ l19_ColourAll.l0 1001 s hash p L false 0 c.1 c.2.1 c.2.2.1 c.2.2.2 = some true
theorem tail3 (x y z : UInt8) (a b c : Int) (X : Hx x a) (Y : Hx y b) (Z : Hx z c) : Tail ⟨#[x, y, z]⟩ ⟨#[35, lowC x, lowC y, lowC z]⟩ true (ixB x * 17, ixB y * 17, ixB z * 17, 255) := by
  rw [X.v, Y.v, Z.v]
  have h := X.n0; have h' := X.n1; have g := Y.n0; have g' := Y.n1; have f := Z.n0; have f' := Z.n1
  obtain ⟨L, h1, h2, h3, h4, h5⟩ := spell_long (a * 17) (b * 17) (c * 17) 255 (by rw [n255]; exact rng3 _ _ _ _ ⟨⟨by omega, by omega⟩, ⟨by omega, by omega⟩, by omega, by omega⟩)
  refine ⟨L, h1, all_found _ _ _ L _ _ _ _ h2 ?_⟩
  rw [n255] at h4
  have e : shortK (cAt (a * 17) (b * 17) (c * 17) 255) 3 = ⟨#[35, lowC x, lowC y, lowC z]⟩ := by
    show ((⟨#[35]⟩ ++ dgt (a * 17 % 16)) ++ dgt (b * 17 % 16)) ++ dgt (c * 17 % 16) = _
    rw [show a * 17 % 16 = a by omega, show b * 17 % 16 = b by omega, show c * 17 % 16 = c by omega, X.d, Y.d, Z.d]
    rfl
  rw [← e]
  refine h4 ?_
  show (((true && (a * 17 % 17 == 0)) && (b * 17 % 17 == 0)) && (c * 17 % 17 == 0)) = true
  rw [show a * 17 % 17 = 0 by omega, show b * 17 % 17 = 0 by omega, show c * 17 % 17 = 0 by omega]
  rfl
theorem tail4 (x y z u : UInt8) (a b c d : Int) (X : Hx x a) (Y : Hx y b) (Z : Hx z c) (U : Hx u d) : Tail ⟨#[x, y, z, u]⟩ ⟨#[35, lowC x, lowC y, lowC z, lowC u]⟩ true (ixB x * 17, ixB y * 17, ixB z * 17, ixB u * 17) := by
  rw [X.v, Y.v, Z.v, U.v]
  have h := X.n0; have h' := X.n1; have g := Y.n0; have g' := Y.n1; have f := Z.n0; have f' := Z.n1; have e := U.n0; have e' := U.n1
  by_cases hd : d * 17 = 255
  · obtain ⟨L, h1, h2, -⟩ := spell_long (a * 17) (b * 17) (c * 17) (d * 17) (by rw [hd, n255]; exact rng3 _ _ _ _ ⟨⟨by omega, by omega⟩, ⟨by omega, by omega⟩, by omega, by omega⟩)
    exact ⟨L, h1, all_four _ _ L _ _ _ _ h2 hd (.inl rfl)⟩
  · obtain ⟨L, h1, h2, h3, h4, h5⟩ := spell_long (a * 17) (b * 17) (c * 17) (d * 17) (by rw [n_other _ hd]; exact rng4 _ _ _ _ ⟨⟨by omega, by omega⟩, ⟨by omega, by omega⟩, ⟨by omega, by omega⟩, by omega, by omega⟩)
    refine ⟨L, h1, all_found _ _ _ L _ _ _ _ h2 ?_⟩
    rw [n_other _ hd] at h4
    have e : shortK (cAt (a * 17) (b * 17) (c * 17) (d * 17)) 4 = ⟨#[35, lowC x, lowC y, lowC z, lowC u]⟩ := by
      show (((⟨#[35]⟩ ++ dgt (a * 17 % 16)) ++ dgt (b * 17 % 16)) ++ dgt (c * 17 % 16)) ++ dgt (d * 17 % 16) = _
      rw [show a * 17 % 16 = a by omega, show b * 17 % 16 = b by omega, show c * 17 % 16 = c by omega, show d * 17 % 16 = d by omega, X.d, Y.d, Z.d, U.d]
      rfl
    rw [← e]
    refine h4 ?_
    show ((((true && (a * 17 % 17 == 0)) && (b * 17 % 17 == 0)) && (c * 17 % 17 == 0)) && (d * 17 % 17 == 0)) = true
    rw [show a * 17 % 17 = 0 by omega, show b * 17 % 17 = 0 by omega, show c * 17 % 17 = 0 by omega, show d * 17 % 17 = 0 by omega]
    rfl
theorem tail6 (x x' y y' z z' : UInt8) (a a' b b' c c' : Int) (X : Hx x a) (X' : Hx x' a') (Y : Hx y b) (Y' : Hx y' b') (Z : Hx z c) (Z' : Hx z' c') : Tail ⟨#[x, x', y, y', z, z']⟩ ⟨#[35, lowC x, lowC x', lowC y, lowC y', lowC z, lowC z']⟩ true (ixB x * 16 + ixB x', ixB y * 16 + ixB y', ixB z * 16 + ixB z', 255) := by
  rw [X.v, Y.v, Z.v, X'.v, Y'.v, Z'.v]
  have h := X.n0; have h' := X.n1; have g := Y.n0; have g' := Y.n1; have f := Z.n0; have f' := Z.n1
  have i := X'.n0; have i' := X'.n1; have j := Y'.n0; have j' := Y'.n1; have k := Z'.n0; have k' := Z'.n1
  obtain ⟨L, h1, h2, h3, h4, h5⟩ := spell_long (a * 16 + a') (b * 16 + b') (c * 16 + c') 255 (by rw [n255]; exact rng3 _ _ _ _ ⟨⟨by omega, by omega⟩, ⟨by omega, by omega⟩, by omega, by omega⟩)
  refine ⟨L, h1, all_found _ _ _ L _ _ _ _ h2 ?_⟩
  rw [n255] at h3
  have e : longK (cAt (a * 16 + a') (b * 16 + b') (c * 16 + c') 255) 3 = ⟨#[35, lowC x, lowC x', lowC y, lowC y', lowC z, lowC z']⟩ := by
    show ((⟨#[35]⟩ ++ (dgt ((a * 16 + a') / 16) ++ dgt ((a * 16 + a') % 16))) ++ (dgt ((b * 16 + b') / 16) ++ dgt ((b * 16 + b') % 16))) ++ (dgt ((c * 16 + c') / 16) ++ dgt ((c * 16 + c') % 16)) = _
    rw [show (a * 16 + a') / 16 = a by omega, show (b * 16 + b') / 16 = b by omega, show (c * 16 + c') / 16 = c by omega, show (a * 16 + a') % 16 = a' by omega, show (b * 16 + b') % 16 = b' by omega, show (c * 16 + c') % 16 = c' by omega, X.d, Y.d, Z.d, X'.d, Y'.d, Z'.d]
    rfl
  rw [← e]
  exact h3
theorem tail8 (x x' y y' z z' u u' : UInt8) (a a' b b' c c' d d' : Int) (X : Hx x a) (X' : Hx x' a') (Y : Hx y b) (Y' : Hx y' b') (Z : Hx z c) (Z' : Hx z' c') (U : Hx u d) (U' : Hx u' d') : Tail ⟨#[x, x', y, y', z, z', u, u']⟩ ⟨#[35, lowC x, lowC x', lowC y, lowC y', lowC z, lowC z', lowC u, lowC u']⟩ true (ixB x * 16 + ixB x', ixB y * 16 + ixB y', ixB z * 16 + ixB z', ixB u * 16 + ixB u') := by
  rw [X.v, Y.v, Z.v, X'.v, Y'.v, Z'.v, U.v, U'.v]
  have h := X.n0; have h' := X.n1; have g := Y.n0; have g' := Y.n1; have f := Z.n0; have f' := Z.n1
  have i := X'.n0; have i' := X'.n1; have j := Y'.n0; have j' := Y'.n1; have k := Z'.n0; have k' := Z'.n1
  have l := U.n0; have l' := U.n1; have m := U'.n0; have m' := U'.n1
  by_cases hd : d * 16 + d' = 255
  · obtain ⟨L, h1, h2, -⟩ := spell_long (a * 16 + a') (b * 16 + b') (c * 16 + c') (d * 16 + d') (by rw [hd, n255]; exact rng3 _ _ _ _ ⟨⟨by omega, by omega⟩, ⟨by omega, by omega⟩, by omega, by omega⟩)
    exact ⟨L, h1, all_four _ _ L _ _ _ _ h2 hd (.inr rfl)⟩
  · obtain ⟨L, h1, h2, h3, h4, h5⟩ := spell_long (a * 16 + a') (b * 16 + b') (c * 16 + c') (d * 16 + d') (by rw [n_other _ hd]; exact rng4 _ _ _ _ ⟨⟨by omega, by omega⟩, ⟨by omega, by omega⟩, ⟨by omega, by omega⟩, by omega, by omega⟩)
    refine ⟨L, h1, all_found _ _ _ L _ _ _ _ h2 ?_⟩
    rw [n_other _ hd] at h3
    have e : longK (cAt (a * 16 + a') (b * 16 + b') (c * 16 + c') (d * 16 + d')) 4 = ⟨#[35, lowC x, lowC x', lowC y, lowC y', lowC z, lowC z', lowC u, lowC u']⟩ := by
      show (((⟨#[35]⟩ ++ (dgt ((a * 16 + a') / 16) ++ dgt ((a * 16 + a') % 16))) ++ (dgt ((b * 16 + b') / 16) ++ dgt ((b * 16 + b') % 16))) ++ (dgt ((c * 16 + c') / 16) ++ dgt ((c * 16 + c') % 16))) ++ (dgt ((d * 16 + d') / 16) ++ dgt ((d * 16 + d') % 16)) = _
      rw [show (a * 16 + a') / 16 = a by omega, show (b * 16 + b') / 16 = b by omega, show (c * 16 + c') / 16 = c by omega, show (d * 16 + d') / 16 = d by omega, show (a * 16 + a') % 16 = a' by omega, show (b * 16 + b') % 16 = b' by omega, show (c * 16 + c') % 16 = c' by omega, show (d * 16 + d') % 16 = d' by omega, X.d, Y.d, Z.d, X'.d, Y'.d, Z'.d, U.d, U'.d]
      rfl
    rw [← e]
    exact h3
theorem enc_high (r : Int) (h : 128 ≤ r) : ∃ b ∈ Lib.encodeRune r, ¬ b.toNat < 128 := by
  unfold Lib.encodeRune
  by_cases h2 : r ≤ 2047
  · rw [Lib.encodeRuneZ_two h h2]
    refine ⟨_, List.mem_cons_self, ?_⟩
    rw [Nat.toUInt8, UInt8.toNat_ofNat']; omega
  by_cases h3 : (2048 ≤ r ∧ r < 55296) ∨ (57343 < r ∧ r ≤ 65535)
  · rw [Lib.encodeRuneZ_three h3]
    refine ⟨_, List.mem_cons_self, ?_⟩
    rw [Nat.toUInt8, UInt8.toNat_ofNat']; omega
  by_cases h4 : 65536 ≤ r ∧ r ≤ 1114111
  · rw [Lib.encodeRuneZ_four h4.1 h4.2]
    refine ⟨_, List.mem_cons_self, ?_⟩
    rw [Nat.toUInt8, UInt8.toNat_ofNat']; omega
  · rw [Lib.encodeRuneZ_bad (by omega)]
    exact ⟨_, List.mem_cons_self, by decide⟩
theorem mapD_low : ∀ l : List UInt8, (∀ c ∈ Lib.mapD lowF l, c.toNat < 128) → ∀ c ∈ l, c.toNat < 128
  | [], _ => fun c hc => absurd hc List.not_mem_nil
  | c :: r, h => by
    by_cases hc : c.toNat < 128
    · intro d hd
      rcases List.mem_cons.1 hd with rfl | hd
      · exact hc
      · refine mapD_low r (fun e he => h e ?_) d hd
        rw [Lib.mapD_step lowF (c :: r) (by simp), Lib.decodeL_ascii c r hc]
        exact List.mem_append_right _ he
    · exfalso
      have hdec : 128 ≤ (Lib.decodeL (c :: r)).1 := Go.Proofs.YthonpnaccjajcaaDoorX.decode_high ⟨(c :: r).toArray⟩ 0 (by show 0 < (c :: r).toArray.size; simp) (by show 128 ≤ c.toNat; omega)
      have hlow : lowF (Lib.decodeL (c :: r)).1 = (Lib.decodeL (c :: r)).1 := by unfold lowF; rw [if_neg (by omega)]
      obtain ⟨b, hb, hn⟩ := enc_high ((Lib.decodeL (c :: r)).1 : Int) (by omega)
      refine hn (h b ?_)
      rw [Lib.mapD_step lowF (c :: r) (by simp), hlow, if_pos (by omega)]
      exact List.mem_append_left _ hb
theorem index_loop (L : List ByteArray) (t : ByteArray) (hL : L.length < 500) : ∀ (d i k : Nat), L.length = i + d → d < k →
    ∃ r, slices_Index_string_string.l0 k L t (L.length : Int) (i : Int) = some r ∧ (r < 0 ∨ ∃ q : Nat, r = (q : Int) ∧ q < L.length ∧ t = rdOf ByteArray.empty L (q : Int))
  | 0, i, k + 1, hi, hk => by
    unfold slices_Index_string_string.l0
    rw [if_neg (by omega)]
    exact ⟨-1, rfl, .inl (by decide)⟩
  | d + 1, i, k + 1, hi, hk => by
    unfold slices_Index_string_string.l0
    have hw : wrap64 ((i : Int) + 1) = ((i + 1 : Nat) : Int) := by unfold wrap64; omega
    rw [if_pos (by omega), if_pos (by omega), if_pos (by omega), hw]
    by_cases h : t.toList = (rdOf ByteArray.empty L (i : Int)).toList
    · rw [if_pos h]
      exact ⟨_, rfl, .inr ⟨i, rfl, by omega, (tl_iff _ _).1 h⟩⟩
    · rw [if_neg h]
      exact index_loop L t hL d (i + 1) k (by omega) (by omega)
theorem words_len : wordsL.length = 76 := rfl
set_option maxRecDepth 100000 in
theorem name_facts : ∀ j, j < 38 → digitsC (rdOf ByteArray.empty wordsL ((2 * j + 1 : Nat) : Int)) 2 = some ((p4C j).1, (p4C j).2.1, (p4C j).2.2.1, (p4C j).2.2.2.1) ∧ (p4C j).2.2.2.1 = 255 ∧ ((0 ≤ (p4C j).1 ∧ (p4C j).1 ≤ 255) ∧ (0 ≤ (p4C j).2.1 ∧ (p4C j).2.1 ≤ 255) ∧ 0 ≤ (p4C j).2.2.1 ∧ (p4C j).2.2.1 ≤ 255) ∧ rdOf ByteArray.empty namesL (j : Int) = rdOf ByteArray.empty wordsL ((2 * j : Nat) : Int) := by decide +kernel
set_option maxRecDepth 100000 in
theorem words_ascii : ∀ j : Nat, j < 76 → asciiL (rdOf ByteArray.empty wordsL ((j : Nat) : Int)).data.toList = true := by decide +kernel
theorem named_says (s : ByteArray) (hs : s.size ≤ 60) : colour_Named.f 1000 s = some (0, 0, 0, 0, false) ∨ ∃ c : Int × Int × Int × Int, colour_Named.f 1000 s = some (c.1, c.2.1, c.2.2.1, c.2.2.2, true) ∧ Tail s (lowAll s) false c := by
  have hl : colour_lower.f s = some (lowS s) := by unfold colour_lower.f; rw [if_pos (by omega)]; rfl
  have hwd : colour_words.f = some wordsL := rfl
  obtain ⟨r, hr, hc⟩ := index_loop wordsL (lowS s) (by rw [words_len]; decide) 76 0 1000 (by rw [words_len]) (by decide)
  have hix : slices_Index_string_string.f 1000 wordsL (lowS s) = some r := hr
  unfold colour_Named.f
  rw [hwd, hl]
  simp only [Option.bind_some, hix]
  rcases hc with hneg | ⟨q, rfl, hq, hw⟩
  · rw [if_pos hneg]; exact .inl rfl
  rw [if_neg (by omega)]
  by_cases hodd : Int.tmod (q : Int) 2 = 1
  · rw [if_pos hodd]; exact .inl rfl
  rw [if_neg hodd]
  obtain ⟨j, rfl⟩ : ∃ j, q = 2 * j := by
    refine ⟨q / 2, ?_⟩
    have : Int.tmod (q : Int) 2 = ((q % 2 : Nat) : Int) := (Int.ofNat_tmod q 2).symm
    omega
  rw [words_len] at hq
  have hw1 : wrap64 (((2 * j : Nat) : Int) + 1) = ((2 * j + 1 : Nat) : Int) := by unfold wrap64; omega
  rw [hw1, if_pos (by omega), if_pos (by rw [words_len]; omega)]
  obtain ⟨f1, f2, f3, f4⟩ := name_facts j (by omega)
  rw [digits_eq, f1]
  refine .inr ⟨((p4C j).1, (p4C j).2.1, (p4C j).2.2.1, (p4C j).2.2.2.1), rfl, ?_⟩
  have hasc : ∀ c ∈ s.data.toList, c.toNat < 128 := by
    refine mapD_low _ (fun c hc => ?_)
    have h2 := words_ascii (2 * j) (by omega)
    rw [← hw] at h2
    unfold asciiL at h2
    rw [List.all_eq_true] at h2
    simpa using h2 c hc
  have hp : lowAll s = rdOf ByteArray.empty namesL (j : Int) := by
    rw [f4, ← hw, lowS_ascii s hasc]
    rfl
  obtain ⟨L, h1, h2, h3, h4, h5⟩ := spell_long (p4C j).1 (p4C j).2.1 (p4C j).2.2.1 (p4C j).2.2.2.1 (by rw [f2, n255]; exact rng3 _ _ _ _ f3)
  refine ⟨L, h1, all_found _ _ _ L _ _ _ _ h2 ?_⟩
  rw [hp]
  exact h5 _ (LK4_mem _ _ _ _ _ _ j (by simp) 38 (by omega))
theorem read_says (s : ByteArray) (a2 a4 a5 : ByteArray) (a3 a6 a7 : Bool) (a8 a9 a10 a11 a12 : Int) : colour_Read.f 4 s a2 a3 a4 a5 a6 a7 a8 a9 a10 a11 a12 = some (0, 0, 0, 0, false) ∨ ∃ c : Int × Int × Int × Int, colour_Read.f 4 s a2 a3 a4 a5 a6 a7 a8 a9 a10 a11 a12 = some (c.1, c.2.1, c.2.2.1, c.2.2.2, true) ∧ Tail s (⟨#[35]⟩ ++ lowAll s) true c := by
  by_cases hx : s.data.toList.all hexB = true
  case neg =>
    refine .inl ?_
    unfold colour_Read.f
    rw [if_neg (by decide), if_neg (fun h => hx h.2)]
  have hm : ∀ c ∈ s.data.toList, hexB c = true := List.all_eq_true.1 hx
  by_cases h3 : s.size = 3
  · obtain ⟨x, y, z, rfl⟩ := size3 s h3
    have b1 := hm x (by simp); have b2 := hm y (by simp); have b3 := hm z (by simp)
    obtain ⟨a, X⟩ := hx_of x b1; obtain ⟨b, Y⟩ := hx_of y b2; obtain ⟨c, Z⟩ := hx_of z b3
    exact .inr ⟨_, read3 x y z X.x7 Y.x7 Z.x7 b1 b2 b3 .., tail3 x y z a b c X Y Z⟩
  by_cases h4 : s.size = 4
  · obtain ⟨x, y, z, u, rfl⟩ := size4 s h4
    have b1 := hm x (by simp); have b2 := hm y (by simp); have b3 := hm z (by simp); have b4 := hm u (by simp)
    obtain ⟨a, X⟩ := hx_of x b1; obtain ⟨b, Y⟩ := hx_of y b2; obtain ⟨c, Z⟩ := hx_of z b3; obtain ⟨d, U⟩ := hx_of u b4
    exact .inr ⟨_, read4 x y z u X.x7 Y.x7 Z.x7 U.x7 b1 b2 b3 b4 .., tail4 x y z u a b c d X Y Z U⟩
  by_cases h6 : s.size = 6
  · obtain ⟨x, x', y, y', z, z', rfl⟩ := size6 s h6
    have b1 := hm x (by simp); have b2 := hm y (by simp); have b3 := hm z (by simp); have b4 := hm x' (by simp); have b5 := hm y' (by simp); have b6 := hm z' (by simp)
    obtain ⟨a, X⟩ := hx_of x b1; obtain ⟨b, Y⟩ := hx_of y b2; obtain ⟨c, Z⟩ := hx_of z b3; obtain ⟨a', X'⟩ := hx_of x' b4; obtain ⟨b', Y'⟩ := hx_of y' b5; obtain ⟨c', Z'⟩ := hx_of z' b6
    exact .inr ⟨_, read6 x x' y y' z z' X.x7 Y.x7 Z.x7 X'.x7 Y'.x7 Z'.x7 b1 b2 b3 b4 b5 b6 .., tail6 x x' y y' z z' a a' b b' c c' X X' Y Y' Z Z'⟩
  by_cases h8 : s.size = 8
  · obtain ⟨x, x', y, y', z, z', u, u', rfl⟩ := size8 s h8
    have b1 := hm x (by simp); have b2 := hm y (by simp); have b3 := hm z (by simp); have b4 := hm x' (by simp); have b5 := hm y' (by simp); have b6 := hm z' (by simp); have b7 := hm u (by simp); have b8 := hm u' (by simp)
    obtain ⟨a, X⟩ := hx_of x b1; obtain ⟨b, Y⟩ := hx_of y b2; obtain ⟨c, Z⟩ := hx_of z b3; obtain ⟨a', X'⟩ := hx_of x' b4; obtain ⟨b', Y'⟩ := hx_of y' b5; obtain ⟨c', Z'⟩ := hx_of z' b6; obtain ⟨d, U⟩ := hx_of u b7; obtain ⟨d', U'⟩ := hx_of u' b8
    exact .inr ⟨_, read8 x x' y y' z z' u u' X.x7 Y.x7 Z.x7 U.x7 X'.x7 Y'.x7 Z'.x7 U'.x7 b1 b2 b3 b4 b5 b6 b7 b8 .., tail8 x x' y y' z z' u u' a a' b b' c c' d d' X X' Y Y' Z Z' U U'⟩
  refine .inl ?_
  unfold colour_Read.f
  rw [if_neg (by decide), if_pos ⟨rfl, hx⟩, if_neg (by omega), if_neg (by omega)]
theorem read_ident (s : ByteArray) (a2 a4 a5 : ByteArray) (a3 a6 a7 : Bool) (a8 a9 a10 a11 a12 : Int) : colour_Read.f 1 s a2 a3 a4 a5 a6 a7 a8 a9 a10 a11 a12 = colour_Named.f 1000 s := by
  unfold colour_Read.f
  rw [if_pos rfl]
theorem all_j0 (s p : ByteArray) (hash : Bool) (kind : Int) (hk : s.size ≤ 60 → colour_Read.f kind s ⟨#[]⟩ false ⟨#[]⟩ ⟨#[]⟩ false false 0 0 0 0 0 = some (0, 0, 0, 0, false) ∨ ∃ c : Int × Int × Int × Int, colour_Read.f kind s ⟨#[]⟩ false ⟨#[]⟩ ⟨#[]⟩ false false 0 0 0 0 0 = some (c.1, c.2.1, c.2.2.1, c.2.2.2, true) ∧ Tail s p hash c) :
    l19_ColourAll.j0 1003 s hash true p kind s ⟨#[]⟩ false ⟨#[]⟩ ⟨#[]⟩ false false 0 0 0 0 0 = some true := by
  unfold l19_ColourAll.j0
  dsimp only
  rw [if_pos rfl]
  unfold l19_ColourAll.j1
  dsimp only
  by_cases hs : s.size ≤ 60
  · rw [show decide ((s.size : Int) > 60) = false from decide_eq_false (by omega), if_neg (by decide)]
    rcases hk hs with h | ⟨c, h, L, h1, h2⟩
    · rw [h]; rfl
    · rw [h, Option.bind_some, if_pos rfl, h1]
      exact h2
  · rw [show decide ((s.size : Int) > 60) = true from decide_eq_true (by omega), if_pos rfl]
theorem ColourAll : l19_ColourAll.Pure := by
  intro s hash hs
  refine ⟨1003, ?_⟩
  unfold l19_ColourAll.f
  have hlow : r13_Lower.f s = some (lowAll s) := by unfold r13_Lower.f; rw [if_pos (by omega)]
  have hsz : (lowAll s).size = s.size := by
    unfold lowAll
    show (s.data.toList.map lowC).toArray.size = s.size
    rw [List.size_toArray, List.length_map]
    rfl
  rw [great_alive 1003 (by omega), hlow, Option.bind_some, Option.bind_some]
  cases hash with
  | true =>
    rw [if_pos rfl, if_pos (by rw [hsz]; omega)]
    exact all_j0 s _ true 4 (fun _ => read_says s ..)
  | false =>
    rw [if_neg (by decide)]
    exact all_j0 s _ false 1 (fun h60 => by rw [read_ident]; exact named_says s h60)
end Go.Proofs.YthonpnaccjajcaaDoor.Pure
