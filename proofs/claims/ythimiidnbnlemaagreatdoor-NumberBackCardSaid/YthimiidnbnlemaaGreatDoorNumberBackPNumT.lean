/- PLAIN LAWS of the reference's number: which numbers may be, all their spellings, the shortest: as the program's. -/
import Derived.Test.YthimiidnbnlemaaGreatDoorNumberBackPNumR
import Derived.Test.YthimiidnbnlemaaGreatDoorNumberBackPx19
import Derived.Test.YthimiidnbnlemaaGreatDoorNumberBackPx20
import Derived.Test.YthimiidnbnlemaaGreatDoorNumberBackPx21
import Derived.Test.YthimiidnbnlemaaGreatDoorNumberBackPx22
import Derived.Test.YthimiidnbnlemaaGreatDoorNumberBackPx17
import Derived.Test.YthimiidnbnlemaaGreatDoorNumberBackPx16
set_option linter.unusedVariables false
set_option linter.unusedSimpArgs false
namespace Go.Proofs.YthimiidnbnlemaaGreatDoorD
open Go.RowKit Go.Proofs.YthimiidnbnlemaaGreatDoorX Go.Proofs.YthimiidnbnlemaaGreatDoor.P Go.Proofs.YthimiidnbnlemaaGreatDoorW.PrintWords Go.Proofs.YthimiidnbnlemaaGreatDoorW.PrintLast Go.Proofs.YthimiidnbnlemaaGreatDoorW.PrintMore
theorem rright_n (neg : Bool) (d e : List UInt8) (hd : d.length ≤ 100000) (he : e.length ≤ 100000) (k : Nat) (hk : d.length + e.length + 10 < k) : abridgerref1_RightNum.f k neg (mk d) (mk e) = some (rightN d e) := by
  unfold abridgerref1_RightNum.f rightN
  rw [mk_toList, mk_toList]
  by_cases h0 : d = []
  · rw [if_pos h0, if_pos h0]
  · have hp : 0 < d.length := List.length_pos_iff.2 h0
    rw [if_neg h0, if_neg h0, rdigits_f (mk d) (by rw [mk_size]; omega) k (by rw [mk_size]; omega), obi, mk_list, mk_size]
    have hdl : digitsL d = d.all isDig := by
      unfold digitsL
      cases d with
      | nil => exact absurd rfl h0
      | cons c r => rfl
    rw [hdl]
    cases ha : d.all isDig with
    | false => rw [if_neg (by decide)]; rfl
    | true =>
      rw [if_pos rfl, if_pos (by omega), w64 (by omega) (by omega)]
      rw [show (0 : Int) = ((0 : Nat) : Int) from rfl, bt_mk d 0 hp, show (d.length : Int) - 1 = ((d.length - 1 : Nat) : Int) by omega, bt_mk d (d.length - 1) (by omega)]
      have hh : d.head? = some d[0] := by rw [List.head?_eq_getElem?, List.getElem?_eq_getElem hp]
      have hg : d.getLast? = some (d[d.length - 1]'(by omega)) := by rw [List.getLast?_eq_getElem?, List.getElem?_eq_getElem (by omega)]
      have sb : ∀ a b : UInt8, (some a != some b) = (a != b) := fun a b => by show (!(some a == some b)) = !(a == b); rw [Option.some_beq_some]
      rw [hh, hg, sb, sb]
      generalize d[0] = x
      generalize d[d.length - 1] = y
      by_cases h1 : x = 48
      · rw [if_pos (by rw [h1]; rfl), h1]; rfl
      · rw [if_neg (fun h => h1 ((byte48 x).1 h)), bne_iff_ne.2 h1, if_pos (by omega), if_pos (by omega)]
        by_cases h2 : y = 48
        · rw [if_pos (by rw [h2]; rfl), h2]; rfl
        · rw [if_neg (fun h => h2 ((byte48 y).1 h)), bne_iff_ne.2 h2, right_f (mk e) (by rw [mk_size]; omega) k (by rw [mk_size]; omega), obi, mk_list]
          rfl
end Go.Proofs.YthimiidnbnlemaaGreatDoorD
