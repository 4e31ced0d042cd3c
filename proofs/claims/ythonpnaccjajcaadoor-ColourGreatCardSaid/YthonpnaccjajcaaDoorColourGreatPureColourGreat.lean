/- ColourGreat: great letters and small ones are one colour, and digits twice are the digits. -/
import Derived.Test.YthonpnaccjajcaaDoorColourGreatPCol
import Derived.Test.YthonpnaccjajcaaDoorColourGreatPx6
import Derived.Test.YthonpnaccjajcaaDoorColourGreatPx4
set_option linter.unusedVariables false
set_option linter.unusedSimpArgs false
namespace Go.Proofs.YthonpnaccjajcaaDoor.Pure
open Go.RowKit Go.Proofs.YthonpnaccjajcaaDoorX Go.Proofs.YthonpnaccjajcaaDoorC Go.Proofs.YthonpnaccjajcaaDoor.P Go.Proofs.YthonpnaccjajcaaDoorW.PrintWords Go.Proofs.YthonpnaccjajcaaDoorW.PrintLast Go.Proofs.YthonpnaccjajcaaDoorW.PrintMore
theorem great_alive (k : Nat) (hk : 400 ≤ k) : l19_alive.f k = some true := by
  unfold l19_alive.f
  rw [spell_white, named_red k hk]
  decide +kernel
def sm : ByteArray := ⟨#[48, 49, 50, 51, 52, 53, 54, 55, 56, 57, 97, 98, 99, 100, 101, 102]⟩
def gr : ByteArray := ⟨#[48, 49, 50, 51, 52, 53, 54, 55, 56, 57, 65, 66, 67, 68, 69, 70]⟩
structure Dg (n : Int) (x X : UInt8) : Prop where
  s : sm.extract n.toNat (wrap64 (n + 1)).toNat = ⟨#[x]⟩
  g : gr.extract n.toNat (wrap64 (n + 1)).toNat = ⟨#[X]⟩
  x7 : x.toNat < 128
  X7 : X.toNat < 128
  hx : hexB x = true
  hX : hexB X = true
  vx : ixB x = n
  vX : ixB X = n
  w : wrap64 (n + 1) = n + 1
  v : wrap64 (17 * n) = 17 * n
theorem dg_all : ∀ n : Nat, n < 16 → Dg (n : Int) (sm.data.toList.getD n 0) (gr.data.toList.getD n 0) := by
  have h : ∀ n : Nat, n < 16 → (sm.extract (n : Int).toNat (wrap64 ((n : Int) + 1)).toNat = ⟨#[sm.data.toList.getD n 0]⟩ ∧ gr.extract (n : Int).toNat (wrap64 ((n : Int) + 1)).toNat = ⟨#[gr.data.toList.getD n 0]⟩) ∧ ((sm.data.toList.getD n 0).toNat < 128 ∧ (gr.data.toList.getD n 0).toNat < 128 ∧ hexB (sm.data.toList.getD n 0) = true ∧ hexB (gr.data.toList.getD n 0) = true) ∧ ixB (sm.data.toList.getD n 0) = n ∧ ixB (gr.data.toList.getD n 0) = n := by decide +kernel
  intro n hn
  obtain ⟨⟨h1, h2⟩, ⟨h3, h4, h5, h6⟩, h7, h8⟩ := h n hn
  exact ⟨h1, h2, h3, h4, h5, h6, h7, h8, by unfold wrap64; omega, by unfold wrap64; omega⟩
theorem dg_of (n : Int) (h0 : 0 ≤ n) (h1 : n ≤ 15) : ∃ x X, Dg n x X := by
  obtain ⟨m, rfl⟩ := Int.eq_ofNat_of_zero_le h0
  exact ⟨_, _, dg_all m (by omega)⟩
theorem read3 (x y z : UInt8) (hx : x.toNat < 128) (hy : y.toNat < 128) (hz : z.toNat < 128) (bx : hexB x = true) (by_ : hexB y = true) (bz : hexB z = true) (a2 a4 a5 : ByteArray) (a3 a6 a7 : Bool) (a8 a9 a10 a11 a12 : Int) :
    colour_Read.f 4 ⟨#[x, y, z]⟩ a2 a3 a4 a5 a6 a7 a8 a9 a10 a11 a12 = some (ixB x * 17, ixB y * 17, ixB z * 17, 255, true) := by
  unfold colour_Read.f
  rw [if_neg (by decide), if_pos ⟨rfl, by simp [bx, by_, bz]⟩, if_pos (.inl rfl), digits3 x y z hx hy hz]
  rfl
theorem read4 (x y z u : UInt8) (hx : x.toNat < 128) (hy : y.toNat < 128) (hz : z.toNat < 128) (hu : u.toNat < 128) (bx : hexB x = true) (by_ : hexB y = true) (bz : hexB z = true) (bu : hexB u = true) (a2 a4 a5 : ByteArray) (a3 a6 a7 : Bool) (a8 a9 a10 a11 a12 : Int) :
    colour_Read.f 4 ⟨#[x, y, z, u]⟩ a2 a3 a4 a5 a6 a7 a8 a9 a10 a11 a12 = some (ixB x * 17, ixB y * 17, ixB z * 17, ixB u * 17, true) := by
  unfold colour_Read.f
  rw [if_neg (by decide), if_pos ⟨rfl, by simp [bx, by_, bz, bu]⟩, if_pos (.inr rfl), digits4 x y z u hx hy hz hu]
  rfl
theorem read6 (x x' y y' z z' : UInt8) (hx : x.toNat < 128) (hy : y.toNat < 128) (hz : z.toNat < 128) (hx' : x'.toNat < 128) (hy' : y'.toNat < 128) (hz' : z'.toNat < 128) (b1 : hexB x = true) (b2 : hexB y = true) (b3 : hexB z = true) (b4 : hexB x' = true) (b5 : hexB y' = true) (b6 : hexB z' = true) (a2 a4 a5 : ByteArray) (a3 a6 a7 : Bool) (a8 a9 a10 a11 a12 : Int) :
    colour_Read.f 4 ⟨#[x, x', y, y', z, z']⟩ a2 a3 a4 a5 a6 a7 a8 a9 a10 a11 a12 = some (ixB x * 16 + ixB x', ixB y * 16 + ixB y', ixB z * 16 + ixB z', 255, true) := by
  unfold colour_Read.f
  rw [if_neg (by decide), if_pos ⟨rfl, by simp [b1, b2, b3, b4, b5, b6]⟩, if_neg (by intro h; exact absurd (show (6 : Nat) = 3 ∨ (6 : Nat) = 4 from h) (by decide)), if_pos (.inl rfl), digits6 x x' y y' z z' hx hy hz hx' hy' hz']
  rfl
theorem read8 (x x' y y' z z' u u' : UInt8) (hx : x.toNat < 128) (hy : y.toNat < 128) (hz : z.toNat < 128) (hu : u.toNat < 128) (hx' : x'.toNat < 128) (hy' : y'.toNat < 128) (hz' : z'.toNat < 128) (hu' : u'.toNat < 128) (b1 : hexB x = true) (b2 : hexB y = true) (b3 : hexB z = true) (b4 : hexB x' = true) (b5 : hexB y' = true) (b6 : hexB z' = true) (b7 : hexB u = true) (b8 : hexB u' = true) (a2 a4 a5 : ByteArray) (a3 a6 a7 : Bool) (a8 a9 a10 a11 a12 : Int) :
    colour_Read.f 4 ⟨#[x, x', y, y', z, z', u, u']⟩ a2 a3 a4 a5 a6 a7 a8 a9 a10 a11 a12 = some (ixB x * 16 + ixB x', ixB y * 16 + ixB y', ixB z * 16 + ixB z', ixB u * 16 + ixB u', true) := by
  unfold colour_Read.f
  rw [if_neg (by decide), if_pos ⟨rfl, by simp [b1, b2, b3, b4, b5, b6, b7, b8]⟩, if_neg (by intro h; exact absurd (show (8 : Nat) = 3 ∨ (8 : Nat) = 4 from h) (by decide)), if_pos (.inr rfl), digits8 x x' y y' z z' u u' hx hy hz hu hx' hy' hz' hu']
  rfl
theorem great_j0 (k : Nat) (a b c d : Int) (four : Bool) (h0 : 0 ≤ a) (h1 : a ≤ 15) (h2 : 0 ≤ b) (h3 : b ≤ 15) (h4 : 0 ≤ c) (h5 : c ≤ 15) (h6 : 0 ≤ d) (h7 : d ≤ 15) : l19_ColourGreat.j0 (k + 1) a b c d four true false = some true := by
  obtain ⟨xa, Xa, A⟩ := dg_of a h0 h1
  obtain ⟨xb, Xb, B⟩ := dg_of b h2 h3
  obtain ⟨xc, Xc, C⟩ := dg_of c h4 h5
  obtain ⟨xd, Xd, D⟩ := dg_of d h6 h7
  obtain ⟨As, Ag, A1, A2, A3, A4, A5, A6, A7, A8⟩ := A
  obtain ⟨Bs, Bg, B1, B2, B3, B4, B5, B6, B7, B8⟩ := B
  obtain ⟨Cs, Cg, C1, C2, C3, C4, C5, C6, C7, C8⟩ := C
  obtain ⟨Ds, Dg_, D1, D2, D3, D4, D5, D6, D7, D8⟩ := D
  unfold sm at As Bs Cs Ds
  unfold gr at Ag Bg Cg Dg_
  unfold l19_ColourGreat.j0
  dsimp only
  rw [As, Ag, Bs, Bg, Cs, Cg, Ds, Dg_, A7, B7, C7, D7, A8, B8, C8, D8]
  have z : ∀ n : Nat, n < 9 → n ≤ 9223372036854775807 := fun n h => by omega
  rw [if_neg (by decide), if_pos h0, if_pos (by omega), if_pos (by omega), if_pos h2, if_pos (by omega), if_pos (by omega), if_pos (by exact z 2 (by decide)), if_pos h4, if_pos (by omega), if_pos (by omega), if_pos (by exact z 3 (by decide)), if_pos (by exact z 2 (by decide)), if_pos (by exact z 3 (by decide)), if_pos (by exact z 4 (by decide)), if_pos (by exact z 5 (by decide)), if_pos (by exact z 6 (by decide))]
  have E17 : ∀ n : Int, n * 17 = 17 * n := fun n => by omega
  have E16 : ∀ n : Int, n * 16 + n = 17 * n := fun n => by omega
  cases four
  · rw [if_neg (by decide)]
    rw [show ((⟨#[xa]⟩ : ByteArray) ++ ⟨#[Xb]⟩) ++ ⟨#[xc]⟩ = ⟨#[xa, Xb, xc]⟩ from rfl, show (((((⟨#[Xa]⟩ : ByteArray) ++ ⟨#[xa]⟩) ++ ⟨#[xb]⟩) ++ ⟨#[xb]⟩) ++ ⟨#[Xc]⟩) ++ ⟨#[Xc]⟩ = ⟨#[Xa, xa, xb, xb, Xc, Xc]⟩ from rfl]
    rw [read3 xa Xb xc A1 B2 C1 A3 B4 C3, read6 Xa xa xb xb Xc Xc A2 B1 C2 A1 B1 C2 A4 B3 C4 A3 B3 C4]
    simp only [Option.bind_some, A5, A6, B5, B6, C5, C6]
    simp only [E17, E16, beq_self_eq_true, Bool.and_self, if_true]
  · rw [if_pos rfl, if_pos h6, if_pos (by omega), if_pos (by omega), if_pos (by exact z 4 (by decide)), if_pos (by exact z 7 (by decide)), if_pos (by exact z 8 (by decide))]
    rw [show (((⟨#[xa]⟩ : ByteArray) ++ ⟨#[Xb]⟩) ++ ⟨#[xc]⟩) ++ ⟨#[Xd]⟩ = ⟨#[xa, Xb, xc, Xd]⟩ from rfl, show (((((((⟨#[Xa]⟩ : ByteArray) ++ ⟨#[xa]⟩) ++ ⟨#[xb]⟩) ++ ⟨#[xb]⟩) ++ ⟨#[Xc]⟩) ++ ⟨#[Xc]⟩) ++ ⟨#[xd]⟩) ++ ⟨#[Xd]⟩ = ⟨#[Xa, xa, xb, xb, Xc, Xc, xd, Xd]⟩ from rfl]
    rw [read4 xa Xb xc Xd A1 B2 C1 D2 A3 B4 C3 D4, read8 Xa xa xb xb Xc Xc xd Xd A2 B1 C2 D1 A1 B1 C2 D2 A4 B3 C4 A3 B3 C4 D3 D4]
    simp only [Option.bind_some, A5, A6, B5, B6, C5, C6, D5, D6]
    simp only [E17, E16, beq_self_eq_true, Bool.and_self, if_true]
theorem ColourGreat : l19_ColourGreat.Pure := by
  intro a b c d four _ _ _ _
  refine ⟨401, ?_⟩
  have out : ∀ x, l19_ColourGreat.j0 401 a b c d x true true = some true := fun x => by unfold l19_ColourGreat.j0; rfl
  unfold l19_ColourGreat.f
  rw [great_alive 401 (by omega)]
  rw [Option.bind_some, if_pos rfl, out]
  by_cases h1 : a < 0
  · rw [if_pos h1]
  rw [if_neg h1]
  by_cases h2 : a > 15
  · rw [if_pos h2]
  rw [if_neg h2]
  by_cases h3 : b < 0
  · rw [if_pos h3]
  rw [if_neg h3]
  by_cases h4 : b > 15
  · rw [if_pos h4]
  rw [if_neg h4]
  by_cases h5 : c < 0
  · rw [if_pos h5]
  rw [if_neg h5]
  by_cases h6 : c > 15
  · rw [if_pos h6]
  rw [if_neg h6]
  by_cases h7 : d < 0
  · rw [if_pos h7]
  rw [if_neg h7]
  by_cases h8 : d > 15
  · rw [show decide (d > 15) = true from decide_eq_true h8, out]
  · rw [show decide (d > 15) = false from decide_eq_false h8]
    exact great_j0 400 a b c d four (by omega) (by omega) (by omega) (by omega) (by omega) (by omega) (by omega) (by omega)
end Go.Proofs.YthonpnaccjajcaaDoor.Pure
