/- The reference's way with texts that are # and digits of base 16: one token, that text. -/
import Derived.Test.YthonpnaccjajcaaDoorColourBackPCol
import Derived.Test.YthonpnaccjajcaaDoorColourBackPx19
import Derived.Test.YthonpnaccjajcaaDoorColourBackPx22
import Derived.Test.YthonpnaccjajcaaDoorColourBackPx18
import Derived.Test.YthonpnaccjajcaaDoorColourBackPx14
import Derived.Test.YthonpnaccjajcaaDoorColourBackPx10
import Derived.Test.YthonpnaccjajcaaDoorColourBackPx8
import Derived.Test.YthonpnaccjajcaaDoorColourBackPx9
import Derived.Test.YthonpnaccjajcaaDoorColourBackPx5
import Derived.Test.YthonpnaccjajcaaDoorColourBackPx6
import Derived.Test.YthonpnaccjajcaaDoorColourBackPx7
import Derived.Test.YthonpnaccjajcaaDoorColourBackPx11
import Derived.Test.YthonpnaccjajcaaDoorColourBackPx15
import Derived.Test.YthonpnaccjajcaaDoorColourBackPx21
import Derived.Test.YthonpnaccjajcaaDoorColourBackPx12
import Derived.Test.YthonpnaccjajcaaDoorColourBackPx13
set_option linter.unusedVariables false
set_option linter.unusedSimpArgs false
namespace Go.Proofs.YthonpnaccjajcaaDoorC
open Go.RowKit Go.Proofs.YthonpnaccjajcaaDoorX Go.Proofs.YthonpnaccjajcaaDoor.P Go.Proofs.YthonpnaccjajcaaDoorW.PrintWords Go.Proofs.YthonpnaccjajcaaDoorW.PrintLast Go.Proofs.YthonpnaccjajcaaDoorW.PrintMore
theorem ob {α β : Type} (a : α) (f : α → Option β) : (some a).bind f = f a := by cases h : f a <;> simp [h]
theorem w64n (j : Nat) (h : j < 140737488355328) : wrap64 ((j : Int) + 1) = ((j + 1 : Nat) : Int) := by unfold wrap64; omega
theorem w64s (x : Int) (h0 : 0 ≤ x) (h : x < 140737488355328) : wrap64 x = x := by unfold wrap64; omega
theorem rd_nat (l : List Int) (i : Nat) : rd l (i : Int) = l.getD i 0 := by unfold rd; rw [Int.toNat_natCast]
theorem next_asc (l : List Int) (i : Nat) (hi : i < l.length) (h0 : 0 ≤ l.getD i 0) (h1 : l.getD i 0 < 128) (k : Nat) : r1_Next.f (k + 4) l (i : Int) = some (l.getD i 0, 1, true) := by
  unfold r1_Next.f
  rw [if_neg (by omega), show decide ((i : Int) ≥ (l.length : Int)) = false from decide_eq_false (by omega)]
  rw [r1_Next.j0, if_neg (by decide), if_pos (by omega), if_pos (by omega), rd_nat, w64s _ h0 (by omega), if_pos h1, r1_Next.j3, r1_Next.l0, if_neg (by decide), if_neg (by omega), if_neg (by omega), if_neg (by omega)]
def rn (l : List Int) (i : Nat) : S55 := ⟨l.getD i 0, (i : Int)⟩
def runesA (l : List Int) (n : Nat) : List S55 := (List.range n).map (rn l)
theorem runesA_len (l : List Int) (n : Nat) : (runesA l n).length = n := by unfold runesA; simp
theorem runesA_succ (l : List Int) (n : Nat) : runesA l (n + 1) = runesA l n ++ [rn l n] := by unfold runesA; rw [List.range_succ, List.map_append]; rfl
theorem runesA_at (l : List Int) (n i : Nat) (h : i < n) : rd_T55 (runesA l n) (i : Int) = rn l i := by
  unfold rd_T55 runesA
  rw [Int.toNat_natCast, List.getD_eq_getElem?_getD, List.getElem?_map, List.getElem?_range h]
  rfl
theorem runes_loop (l : List Int) (hl : l.length < 100000) (H : ∀ i, i < l.length → 14 ≤ l.getD i 0 ∧ l.getD i 0 < 128) : ∀ (d i k : Nat), l.length = i + d → d + 5 < k → r13_Runes.l0 k l (runesA l i) (i : Int) = some (runesA l l.length)
  | 0, i, k + 1, hi, hk => by
    rw [r13_Runes.l0, if_neg (by omega), show i = l.length by omega]
  | d + 1, i, k + 1, hi, hk => by
    obtain ⟨h0, h1⟩ := H i (by omega)
    obtain ⟨m, rfl⟩ : ∃ m, k = m + 4 := ⟨k - 4, by omega⟩
    rw [r13_Runes.l0, if_pos (by omega), next_asc l i (by omega) (by omega) h1, ob]
    dsimp only
    rw [if_neg (by omega), if_neg (by omega), if_neg (by omega), if_pos (by rw [runesA_len]; omega), w64n i (by omega)]
    have := runes_loop l hl H d (i + 1) (m + 4) (by omega) (by omega)
    rw [runesA_succ] at this
    exact this
theorem runes_asc (l : List Int) (hl : l.length < 100000) (H : ∀ i, i < l.length → 14 ≤ l.getD i 0 ∧ l.getD i 0 < 128) (k : Nat) (hk : l.length + 5 < k) : r13_Runes.f k l = some (runesA l l.length) :=
  runes_loop l hl H l.length 0 k (by omega) hk
theorem put_asc (x : List Int) (c : Int) (h0 : 0 ≤ c) (h1 : c < 128) (hx : x.length < 140737488355328) (k : Nat) : r1_Put.f (k + 2) x c = some (x ++ [c]) := by
  unfold r1_Put.f
  rw [if_neg (by omega), if_neg (by omega), if_neg (by omega), r1_Put.j0, if_neg (by decide), r1_Put.j1, if_pos h1, if_pos hx, show c % 256 = c by omega]
def hexI (c : Int) : Prop := (48 ≤ c ∧ c ≤ 57) ∨ (97 ≤ c ∧ c ≤ 102)
theorem start_hex (c : Int) (h : hexI c) : r13_Start.f c = some (decide (97 ≤ c)) := by
  unfold hexI at h
  unfold r13_Start.f
  by_cases h1 : c ≥ 97
  · rw [if_pos h1, if_pos (by omega), show decide (97 ≤ c) = true from decide_eq_true h1]
  · rw [if_neg h1, if_neg (by omega), if_neg (by omega), show decide (97 ≤ c) = false from decide_eq_false h1, show decide (c ≥ 128) = false from decide_eq_false (by omega)]
theorem digit_i (c : Int) : r13_digit.f c = some (decide (48 ≤ c ∧ c ≤ 57)) := by
  unfold r13_digit.f
  by_cases h : c ≥ 48
  · rw [if_pos h]; congr 1; rw [Bool.eq_iff_iff, decide_eq_true_iff, decide_eq_true_iff]; omega
  · rw [if_neg h]; congr 1; symm; exact decide_eq_false (by omega)
theorem in_hex (c : Int) (h : hexI c) : r13_In.f c = some true := by
  unfold r13_In.f
  rw [start_hex c h, ob]
  by_cases h1 : 97 ≤ c
  · rw [show decide (97 ≤ c) = true from decide_eq_true h1, if_pos rfl]
  · rw [show decide (97 ≤ c) = false from decide_eq_false h1, if_neg (by decide), digit_i, ob, show decide (48 ≤ c ∧ c ≤ 57) = true from decide_eq_true (by unfold hexI at h; omega), if_pos rfl]
theorem take_loop (l : List Int) (n : Nat) (hn : n < 100000) : ∀ (d i k : Nat) (acc : List Int), n = i + d → d + 3 < k → acc.length ≤ i → (∀ j, i ≤ j → j < n → hexI (l.getD j 0)) →
    r13_Take.l0 k (runesA l n) (i : Int) acc = some (strOfNums (acc ++ (List.range' i d).map fun j => l.getD j 0), (n : Int))
  | 0, i, k + 1, acc, hi, hk, ha, H => by
    rw [r13_Take.l0, if_neg (by rw [runesA_len]; omega), show i = n by omega]
    simp
  | d + 1, i, k + 1, acc, hi, hk, ha, H => by
    have h := H i (by omega) (by omega)
    have hb : 0 ≤ l.getD i 0 ∧ l.getD i 0 < 128 := by unfold hexI at h; omega
    obtain ⟨m, rfl⟩ : ∃ m, k = m + 2 := ⟨k - 2, by omega⟩
    rw [r13_Take.l0, if_pos (by rw [runesA_len]; omega), if_pos (by omega), runesA_at l n i (by omega)]
    show (Option.bind (r13_In.f (l.getD i 0)) _) = _
    rw [in_hex _ h, ob, if_pos rfl]
    show (Option.bind (r1_Put.f (m + 2) acc (l.getD i 0)) _) = _
    rw [put_asc acc _ hb.1 hb.2 (by omega), ob, w64n i (by omega), take_loop l n hn d (i + 1) (m + 2) (acc ++ [l.getD i 0]) (by omega) (by omega) (by simp; omega) (fun j h1 h2 => H j (by omega) h2)]
    rw [List.range'_succ, List.map_cons, List.append_assoc]
    rfl
theorem at_asc (l : List Int) (n i : Nat) (h : i < n) : r13_at.f (runesA l n) (i : Int) = some (l.getD i 0) := by
  unfold r13_at.f
  rw [if_neg (by omega), if_neg (by rw [runesA_len]; omega), if_pos (by omega), if_pos (by rw [runesA_len]; omega), runesA_at l n i h]
  rfl
theorem clex_hash (l : List Int) (hl : l.length < 100000) (h2 : 2 ≤ l.length) (h0 : l.getD 0 0 = 35) (H : ∀ j, 1 ≤ j → j < l.length → hexI (l.getD j 0)) (k : Nat) (hk : l.length + 20 < k) :
    ∃ b, r13_Clex.f k (runesA l l.length) = some [⟨4, strOfNums ((List.range' 1 (l.length - 1)).map fun j => l.getD j 0), ⟨#[]⟩, ⟨false, ⟨#[]⟩, ⟨#[]⟩⟩, b, false, ⟨0, 0, 0, 0⟩, 0⟩] := by
  generalize hN : l.length = n at *
  have h1 := H 1 (by omega) (by omega)
  obtain ⟨m, rfl⟩ : ∃ m, k = m + 10 := ⟨k - 10, by omega⟩
  have hf : r13_follows.f (m + 9) (runesA l n) 0 ⟨#[47, 42]⟩ = some false := by
    unfold r13_follows.f
    rw [r13_follows.l0, if_pos (by decide), show wrap64 (0 + 0) = ((0 : Nat) : Int) by unfold wrap64; omega, at_asc l n 0 (by omega), ob, if_pos (by decide), h0, show bt (⟨#[47, 42]⟩ : ByteArray) 0 = 47 from rfl, w64s 47 (by omega) (by omega), if_neg (by decide)]
  have hb : r13_Begins.f (m + 7) (runesA l n) 1 = some (decide (97 ≤ l.getD 1 0)) := by
    unfold r13_Begins.f
    rw [if_neg (by decide), runesA_len, show decide ((1 : Int) ≥ (n : Int)) = false from decide_eq_false (by omega), r13_Begins.j0, if_neg (by decide), if_pos (by decide), if_pos (by rw [runesA_len]; omega)]
    rw [show (1 : Int) = ((1 : Nat) : Int) from rfl, runesA_at l n 1 (by omega)]
    show (if l.getD 1 0 = 45 then _ else (Option.bind (r13_Start.f (l.getD 1 0)) _)) = _
    rw [if_neg (by unfold hexI at h1; omega), start_hex _ h1, ob]
    by_cases hs : 97 ≤ l.getD 1 0
    · rw [show decide (97 ≤ l.getD 1 0) = true from decide_eq_true hs, if_pos rfl]
    · rw [show decide (97 ≤ l.getD 1 0) = false from decide_eq_false hs, if_neg (by decide)]
      unfold r13_escape.f
      rw [at_asc l n 1 (by omega), ob, if_neg (by unfold hexI at h1; omega), ob]
  have ht : r13_Take.f (m + 7) (runesA l n) 1 = some (strOfNums ((List.range' 1 (n - 1)).map fun j => l.getD j 0), (n : Int)) := by
    unfold r13_Take.f r1_Cap.f
    rw [if_neg (by decide), if_neg (by rw [runesA_len]; omega), ob]
    have := take_loop l n hl (n - 1) 1 (m + 7) [] (by omega) (by omega) (by simp) H
    rw [List.nil_append] at this
    exact this
  have ho : r13_one.f (m + 9) (runesA l n) 0 = some (4, strOfNums ((List.range' 1 (n - 1)).map fun j => l.getD j 0), ⟨#[]⟩, false, ⟨#[]⟩, ⟨#[]⟩, decide (97 ≤ l.getD 1 0), false, 0, 0, 0, 0, 0, (n : Int)) := by
    unfold r13_one.f
    rw [if_pos (by decide), if_pos (by rw [runesA_len]; omega), hf, ob, if_neg (by decide)]
    rw [show (0 : Int) = ((0 : Nat) : Int) from rfl, runesA_at l n 0 (by omega)]
    show (Option.bind (r13_blank.f (l.getD 0 0)) _) = _
    rw [h0, show r13_blank.f 35 = some false from rfl, ob, if_neg (by decide)]
    show (if l.getD 0 0 = 34 then _ else r13_one.j2 _ _ _ (l.getD 0 0) _ (l.getD 0 0 == 39)) = _
    rw [h0, if_neg (by decide), show ((35 : Int) == 39) = false from rfl, r13_one.j2, if_neg (by decide), if_pos rfl, show wrap64 (((0 : Nat) : Int) + 1) = ((1 : Nat) : Int) by unfold wrap64; omega, at_asc l n 1 (by omega), ob, in_hex _ h1, ob, if_pos rfl]
    rw [r13_one.j3, if_pos rfl, show wrap64 (((0 : Nat) : Int) + 1) = (1 : Int) by unfold wrap64; omega]
    rw [ht, ob, hb, ob]
    rfl
  refine ⟨decide (97 ≤ l.getD 1 0), ?_⟩
  unfold r13_Clex.f
  rw [r13_Clex.l0, if_pos (by rw [runesA_len]; omega), ho, ob, if_pos (by decide), if_pos (by decide)]
  dsimp only
  rw [r13_Clex.l0, if_neg (by rw [runesA_len]; omega), show (0 : Int) = ((0 : Nat) : Int) from rfl, runesA_at l n 0 (by omega)]
  rfl
end Go.Proofs.YthonpnaccjajcaaDoorC
