/- NumberWrong: which texts are no numbers, and what is near them: each text is read on lists of bytes. -/
import Derived.Test.YthimiidnbnlemaaDoorPNumA
import Derived.Test.YthimiidnbnlemaaDoorPx24
set_option linter.unusedVariables false
set_option linter.unusedSimpArgs false
namespace Go.Proofs.YthimiidnbnlemaaDoor.Pure
open Go.RowKit Go.Proofs.YthimiidnbnlemaaDoorX Go.Proofs.YthimiidnbnlemaaDoorD Go.Proofs.YthimiidnbnlemaaDoor.P Go.Proofs.YthimiidnbnlemaaDoorW.PrintWords Go.Proofs.YthimiidnbnlemaaDoorW.PrintLast Go.Proofs.YthimiidnbnlemaaDoorW.PrintMore

def texts : List (List UInt8) := [[48], [], [45], [43, 49], [46, 53], [53, 46], [46], [49, 101], [49, 101, 43], [49, 101, 53], [49, 69, 45, 48, 53], [49, 46, 53, 46, 50], [48, 120, 49], [32, 49], [49, 32], [45, 45, 49], [45, 46, 48, 101, 48], [101, 53], [48, 48], [49, 101, 53, 46, 48]]
def oks : List Bool := [true, false, false, true, true, false, false, false, false, true, true, false, false, false, false, false, true, false, true, false]
theorem all_ok : ∀ i : Fin 20, (readL (texts[i.val]'(i.isLt))).isSome = oks[i.val]'(i.isLt) := by decide
theorem NumberWrong : abridgerlaw5_NumberWrong.Pure := by
  intro a _
  obtain ⟨K, hK⟩ : ∃ K : Nat, 3000010 ≤ K := ⟨3000010, Nat.le_refl _⟩
  refine ⟨K, ?_⟩
  unfold abridgerlaw5_NumberWrong.f
  rw [alive5_f K (by omega)]
  simp only [obi]
  rw [if_pos trivial]
  by_cases h1 : a < 0
  · rw [if_pos h1]
  rw [if_neg h1]
  obtain ⟨n, rfl⟩ := Int.eq_ofNat_of_zero_le (show 0 ≤ a by omega)
  by_cases h2 : n ≥ 20
  · rw [if_pos (by simp; omega)]
  rw [if_neg (by simp; omega), if_pos (by omega), if_pos (by simp; omega)]
  have et : ([(⟨#[48]⟩ : ByteArray), (⟨#[]⟩ : ByteArray), (⟨#[45]⟩ : ByteArray), (⟨#[43, 49]⟩ : ByteArray), (⟨#[46, 53]⟩ : ByteArray), (⟨#[53, 46]⟩ : ByteArray), (⟨#[46]⟩ : ByteArray), (⟨#[49, 101]⟩ : ByteArray), (⟨#[49, 101, 43]⟩ : ByteArray), (⟨#[49, 101, 53]⟩ : ByteArray), (⟨#[49, 69, 45, 48, 53]⟩ : ByteArray), (⟨#[49, 46, 53, 46, 50]⟩ : ByteArray), (⟨#[48, 120, 49]⟩ : ByteArray), (⟨#[32, 49]⟩ : ByteArray), (⟨#[49, 32]⟩ : ByteArray), (⟨#[45, 45, 49]⟩ : ByteArray), (⟨#[45, 46, 48, 101, 48]⟩ : ByteArray), (⟨#[101, 53]⟩ : ByteArray), (⟨#[48, 48]⟩ : ByteArray), (⟨#[49, 101, 53, 46, 48]⟩ : ByteArray)] : List ByteArray) = texts.map mk := rfl
  have hall : ∀ i : Fin 20, (texts[i.val]'(i.isLt)).length ≤ 5000 := by decide
  have hl : texts.length = 20 := rfl
  have hsz : (texts[n]'(by rw [hl]; omega)).length ≤ 5000 := hall ⟨n, by omega⟩
  have ho : oks.length = 20 := rfl
  rw [et, rdOf_at _ n (by rw [List.length_map, hl]; omega), List.getElem_map, read_f _ hsz K (by omega)]
  simp only [obi]
  rw [if_pos (by simp; omega)]
  have hk : (readL (texts[n]'(by rw [hl]; omega))).isSome = oks[n]'(by rw [ho]; omega) := all_ok ⟨n, by omega⟩
  have er : ∀ l, (readV l).2.2.2 = (readL l).isSome := by intro l; unfold readV; cases readL l <;> rfl
  rw [er, hk]
  have eo : rdOf false oks (n : Int) = oks[n]'(by rw [ho]; omega) := by simp [rdOf, List.getElem?_eq_getElem (show n < oks.length by rw [ho]; omega)]
  show some (_ == rdOf false oks (n : Int)) = some true
  rw [eo]
  simp

end Go.Proofs.YthimiidnbnlemaaDoor.Pure
