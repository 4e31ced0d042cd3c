/- Colours' reading of digits, and that the law's examples hold, in plain Lean. -/
import Derived.Test.YthonpnaccjajcaaDoorColourBackPCol
import Derived.Test.YthonpnaccjajcaaDoorColourBackPx4
set_option linter.unusedVariables false
set_option linter.unusedSimpArgs false
namespace Go.Proofs.YthonpnaccjajcaaDoorC
open Go.RowKit Go.Proofs.YthonpnaccjajcaaDoorX Go.Proofs.YthonpnaccjajcaaDoor.P Go.Proofs.YthonpnaccjajcaaDoorW.PrintWords Go.Proofs.YthonpnaccjajcaaDoorW.PrintLast Go.Proofs.YthonpnaccjajcaaDoorW.PrintMore
theorem great_alive (k : Nat) (hk : 400 ≤ k) : l19_alive.f k = some true := by
  unfold l19_alive.f
  rw [spell_white, named_red k hk]
  decide +kernel
def sm : ByteArray := ⟨#[48, 49, 50, 51, 52, 53, 54, 55, 56, 57, 97, 98, 99, 100, 101, 102]⟩
theorem read3 (x y z : UInt8) (hx : x.toNat < 128) (hy : y.toNat < 128) (hz : z.toNat < 128) (bx : hexB x = true) (by_ : hexB y = true) (bz : hexB z = true) (a2 a4 a5 : ByteArray) (a3 a6 a7 : Bool) (a8 a9 a10 a11 a12 : Int) :
    colour_Read.f 4 ⟨#[x, y, z]⟩ a2 a3 a4 a5 a6 a7 a8 a9 a10 a11 a12 = some (ixB x * 17, ixB y * 17, ixB z * 17, 255, true) := by
  unfold colour_Read.f
  rw [if_neg (by decide), if_pos ⟨rfl, by simp [bx, by_, bz]⟩, if_pos (.inl rfl), digits3 x y z hx hy hz]
  rfl
theorem read4 (x y z u : UInt8) (hx : x.toNat < 128) (hy : y.toNat < 128) (hz : z.toNat < 128) (hu : u.toNat < 128) (bx : hexB x = true) (by_ : hexB y = true) (bz : hexB z = true) (bu : hexB u = true) (a2 a4 a5 : ByteArray) (a3 a6 a7 : Bool) (a8 a9 a10 a11 a12 : Int) :
    colour_Read.f 4 ⟨#[x, y, z, u]⟩ a2 a3 a4 a5 a6 a7 a8 a9 a10 a11 a12 = some (ixB x * 17, ixB y * 17, ixB z * 17, ixB u * 17, true) := by
  unfold colour_Read.f
  rw [if_neg (by decide), if_pos ⟨rfl, by simp [bx, by_, bz, bu]⟩, if_pos (.inr rfl), digits4 x y z u hx hy hz hu]
  rfl
theorem read6 (x x' y y' z z' : UInt8) (hx : x.toNat < 128) (hy : y.toNat < 128) (hz : z.toNat < 128) (hx' : x'.toNat < 128) (hy' : y'.toNat < 128) (hz' : z'.toNat < 128) (b1 : hexB x = true) (b2 : hexB y = true) (b3 : hexB z = true) (b4 : hexB x' = true) (b5 : hexB y' = true) (b6 : hexB z' = true) (a2 a4 a5 : ByteArray) (a3 a6 a7 : Bool) (a8 a9 a10 a11 a12 : Int) :
    colour_Read.f 4 ⟨#[x, x', y, y', z, z']⟩ a2 a3 a4 a5 a6 a7 a8 a9 a10 a11 a12 = some (ixB x * 16 + ixB x', ixB y * 16 + ixB y', ixB z * 16 + ixB z', 255, true) := by
  unfold colour_Read.f
  rw [if_neg (by decide), if_pos ⟨rfl, by simp [b1, b2, b3, b4, b5, b6]⟩, if_neg (by intro h; exact absurd (show (6 : Nat) = 3 ∨ (6 : Nat) = 4 from h) (by decide)), if_pos (.inl rfl), digits6 x x' y y' z z' hx hy hz hx' hy' hz']
  rfl
theorem read8 (x x' y y' z z' u u' : UInt8) (hx : x.toNat < 128) (hy : y.toNat < 128) (hz : z.toNat < 128) (hu : u.toNat < 128) (hx' : x'.toNat < 128) (hy' : y'.toNat < 128) (hz' : z'.toNat < 128) (hu' : u'.toNat < 128) (b1 : hexB x = true) (b2 : hexB y = true) (b3 : hexB z = true) (b4 : hexB x' = true) (b5 : hexB y' = true) (b6 : hexB z' = true) (b7 : hexB u = true) (b8 : hexB u' = true) (a2 a4 a5 : ByteArray) (a3 a6 a7 : Bool) (a8 a9 a10 a11 a12 : Int) :
    colour_Read.f 4 ⟨#[x, x', y, y', z, z', u, u']⟩ a2 a3 a4 a5 a6 a7 a8 a9 a10 a11 a12 = some (ixB x * 16 + ixB x', ixB y * 16 + ixB y', ixB z * 16 + ixB z', ixB u * 16 + ixB u', true) := by
  unfold colour_Read.f
  rw [if_neg (by decide), if_pos ⟨rfl, by simp [b1, b2, b3, b4, b5, b6, b7, b8]⟩, if_neg (by intro h; exact absurd (show (8 : Nat) = 3 ∨ (8 : Nat) = 4 from h) (by decide)), if_pos (.inr rfl), digits8 x x' y y' z z' u u' hx hy hz hu hx' hy' hz' hu']
  rfl
end Go.Proofs.YthonpnaccjajcaaDoorC
