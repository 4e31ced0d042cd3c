/- PLAIN LAWS of the reference's number: which numbers may be, all their spellings, the shortest: as the program's. -/
import Derived.Test.YthimiidnbnlemaaGreatDoorNumberTellsPNumR
import Derived.Test.YthimiidnbnlemaaGreatDoorNumberTellsPx19
import Derived.Test.YthimiidnbnlemaaGreatDoorNumberTellsPx20
import Derived.Test.YthimiidnbnlemaaGreatDoorNumberTellsPx21
import Derived.Test.YthimiidnbnlemaaGreatDoorNumberTellsPx22
import Derived.Test.YthimiidnbnlemaaGreatDoorNumberTellsPx17
import Derived.Test.YthimiidnbnlemaaGreatDoorNumberTellsPx16
set_option linter.unusedVariables false
set_option linter.unusedSimpArgs false
namespace Go.Proofs.YthimiidnbnlemaaGreatDoorD
open Go.RowKit Go.Proofs.YthimiidnbnlemaaGreatDoorX Go.Proofs.YthimiidnbnlemaaGreatDoor.P Go.Proofs.YthimiidnbnlemaaGreatDoorW.PrintWords Go.Proofs.YthimiidnbnlemaaGreatDoorW.PrintLast Go.Proofs.YthimiidnbnlemaaGreatDoorW.PrintMore
theorem rright_n (neg : Bool) (d e : List UInt8) (hd : d.length ≤ 100000) (he : e.length ≤ 100000) (k : Nat) (hk : d.length + e.length + 10 < k) : r1_RightNum.f k neg (mk d) (mk e) = some (rightN d e) := by
  unfold r1_RightNum.f rightN
  rw [mk_toList, mk_toList]
  by_cases h0 : d = []
  · rw [if_pos h0, if_pos h0]
  · have hp : 0 < d.length := List.length_pos_iff.2 h0
    rw [if_neg h0, if_neg h0, rdigits_f (mk d) (by rw [mk_size]; omega) k (by rw [mk_size]; omega), obi, mk_list, mk_size]
    have hdl : digitsL d = d.all isDig := by
      unfold digitsL
      cases d with
      | nil => exact absurd rfl h0
      | cons c r => rfl
    rw [hdl]
    cases ha : d.all isDig with
    | false => rw [if_neg (by decide)]; rfl
    | true =>
      rw [if_pos rfl, if_pos (by omega), w64 (by omega) (by omega)]
      rw [show (0 : Int) = ((0 : Nat) : Int) from rfl, bt_mk d 0 hp, show (d.length : Int) - 1 = ((d.length - 1 : Nat) : Int) by omega, bt_mk d (d.length - 1) (by omega)]
      have hh : d.head? = some d[0] := by rw [List.head?_eq_getElem?, List.getElem?_eq_getElem hp]
      have hg : d.getLast? = some (d[d.length - 1]'(by omega)) := by rw [List.getLast?_eq_getElem?, List.getElem?_eq_getElem (by omega)]
      have sb : ∀ a b : UInt8, (some a != some b) = (a != b) := fun a b => by show (!(some a == some b)) = !(a == b); rw [Option.some_beq_some]
      rw [hh, hg, sb, sb]
      generalize d[0] = x
      generalize d[d.length - 1] = y
      by_cases h1 : x = 48
      · rw [if_pos (by rw [h1]; rfl), h1]; rfl
      · rw [if_neg (fun h => h1 ((byte48 x).1 h)), bne_iff_ne.2 h1, if_pos (by omega), if_pos (by omega)]
        by_cases h2 : y = 48
        · rw [if_pos (by rw [h2]; rfl), h2]; rfl
        · rw [if_neg (fun h => h2 ((byte48 y).1 h)), bne_iff_ne.2 h2, right_f (mk e) (by rw [mk_size]; omega) k (by rw [mk_size]; omega), obi, mk_list]
          rfl
theorem rnoughts_go (n : Nat) (hn : n ≤ 1000) : ∀ (d k i : Nat), d < k → n < i + d → i ≤ n →
    r1_noughts.l0 k (n : Int) (mk (List.replicate i 48)) (i : Int) = some (mk (List.replicate n 48)) := by
  intro d
  induction d with
  | zero => intro k i hk hd hi; omega
  | succ d ih =>
    intro k i hk hd hi
    obtain ⟨k, rfl⟩ : ∃ m, k = m + 1 := ⟨k - 1, by omega⟩
    simp only [r1_noughts.l0]
    by_cases h : i < n
    · have z48 : (⟨#[48]⟩ : ByteArray) = mk [48] := rfl
      rw [if_pos (by omega), if_pos (by rw [mk_size, List.length_replicate]; omega), w64 (by omega) (by omega), z48, mk_append]
      have e : List.replicate i (48 : UInt8) ++ [48] = List.replicate (i + 1) 48 := by
        rw [List.replicate_succ']
      rw [e]
      exact ih k (i + 1) (by omega) (by omega) (by omega)
    · rw [if_neg (by omega), show i = n by omega]
theorem rnoughts_f (n : Nat) (hn : n ≤ 1000) (k : Nat) (hk : 1002 < k) : r1_noughts.f k (n : Int) = some (mk (List.replicate n 48)) :=
  rnoughts_go n hn (n + 1) k 0 (by omega) (by omega) (by omega)
def signM (neg : Bool) : List UInt8 := if neg = true then [45] else []
theorem signM_app (neg : Bool) (x : List UInt8) : signM neg ++ x = if neg = true then 45 :: x else x := by cases neg <;> rfl
theorem signM_len (neg : Bool) : (signM neg).length ≤ 1 := by cases neg <;> simp [signM]
theorem rj6_plain (neg : Bool) (out : List (List UInt8)) (d : List UInt8) (e : Int) (hd : d.length ≤ 10000) (h1 : 1 ≤ d.length) (he : (S e).size ≤ 100000) (ho : out.length ≤ 10) (g : Bool) (k : Nat) (hk : 3000000 < k) :
    r1_PlainNum.j6 k (mk (signM neg)) (mk d) (out.map mk) (d.length : Int) g (mk d) (S e) = some ((out ++ [signM neg ++ spell d e] ++ (lastsL d e).map (signM neg ++ ·)).map mk) := by
  obtain ⟨k, rfl⟩ : ∃ m, k = m + 1 := ⟨k - 1, by omega⟩
  have z101 : (⟨#[101]⟩ : ByteArray) = mk [101] := rfl
  have z46 : (⟨#[46]⟩ : ByteArray) = mk [46] := rfl
  have hm := signM_len neg
  generalize signM neg = M at hm ⊢
  rw [r1_PlainNum.j6, z101, z46, mk_size, mk_size, mk_append, mk_size, mk_append, mk_size]
  have hl : (List.map mk out).length = out.length := by simp
  rw [S_size] at he
  have a1 : (M ++ d).length = M.length + d.length := List.length_append
  have a2 : (M ++ d ++ [101]).length = M.length + d.length + 1 := by rw [List.length_append, a1]; rfl
  rw [if_pos (by omega), if_pos (by omega), if_pos (by rw [S_size, a2]; omega), if_pos (by rw [hl]; omega), obi]
  have espell : mk (M ++ d ++ [101]) ++ S e = mk (M ++ spell d e) := by rw [S_mk, mk_append]; simp [spell]
  rw [espell]
  have emap : List.map mk out ++ [mk (M ++ spell d e)] = (out ++ [M ++ spell d e]).map mk := by simp
  rw [emap]
  by_cases hn : (d.length : Int) > 1
  · rw [if_pos hn, w64 (by omega) (by omega), dec_f _ (by omega) (by omega) k (by omega), obi]
    have h6 : (10 : Nat) ^ 6 = 1000000 := by decide
    have hs := S_len ((d.length : Int) - 1) 6 (by omega) (by omega)
    rw [radd_f (S e) (S ((d.length : Int) - 1)) (S_right e) (S_right _) (by rw [S_size]; omega) (by omega) k (by rw [S_size]; omega), obi, S_toI, S_toI]
    have e1 := mk_take d 1
    have e2 := mk_drop d 1
    rw [mk_size] at e2
    have l1 : (d.take 1).length = 1 := by rw [List.length_take]; omega
    have l2 : (d.drop 1).length = d.length - 1 := by rw [List.length_drop]
    rw [if_pos (by omega), if_pos (by omega), e1, e2, mk_append, mk_append, mk_append, mk_size, mk_size, mk_size, mk_size]
    have b1 : (M ++ d.take 1).length = M.length + 1 := by rw [List.length_append, l1]
    have b2 : (M ++ d.take 1 ++ [46]).length = M.length + 2 := by rw [List.length_append, b1]; rfl
    have b3 : (M ++ d.take 1 ++ [46] ++ d.drop 1).length = M.length + 2 + (d.length - 1) := by rw [List.length_append, b2, l2]
    rw [if_pos (by omega), if_pos (by omega), if_pos (by omega)]
    by_cases hz : e + ((d.length : Int) - 1) = 0
    · have eL : lastsL d e = [] := by unfold lastsL; rw [if_neg (fun h => h.2 hz)]
      rw [if_pos ((S_zero_iff _).2 hz), eL, List.map_nil, List.append_nil]
    · have eL : lastsL d e = [d.take 1 ++ 46 :: d.drop 1 ++ 101 :: Lib.itoa (e + ((d.length : Int) - 1))] := by unfold lastsL; rw [if_pos ⟨by omega, hz⟩]
      have hsum : (S (e + ((d.length : Int) - 1))).size ≤ 1000000 := by
        have f1 := fits_of (Lib.itoa e) (itoa_right e).1
        rw [(itoa_right e).2] at f1
        have f2 : Fits ((d.length : Int) - 1) 6 := by unfold Fits; omega
        have f3 := (f1.mono (n := (Lib.itoa e).length + 6) (by omega)).add (f2.mono (n := (Lib.itoa e).length + 6) (by omega))
        have := S_size_le _ _ f3 (by omega)
        omega
      have b4 : (M ++ d.take 1 ++ [46] ++ d.drop 1 ++ [101]).length = M.length + 2 + (d.length - 1) + 1 := by rw [List.length_append, b3]; rfl
      rw [if_neg (fun h => hz ((S_zero_iff _).1 h)), eL, mk_append, mk_size, mk_size, if_pos (by omega), if_pos (by show _ + (S (e + ((d.length : Int) - 1))).size ≤ _; omega), if_pos (by simp; omega)]
      refine congrArg some ?_
      rw [S_mk, mk_append]
      simp
  · have eL : lastsL d e = [] := by unfold lastsL; rw [if_neg (fun h => hn (by omega))]
    rw [if_neg hn, eL, List.map_nil, List.append_nil]
theorem rplain_f (neg : Bool) (d e : List UInt8) (hd : d.length ≤ 10000) (he : e.length ≤ 10000) (k : Nat) (hk : 3000100 < k) :
    r1_PlainNum.f k neg (mk d) (mk e) = some (if rightN d e = true then (spellsL neg d (toI e)).map mk else []) := by
  obtain ⟨k, rfl⟩ : ∃ m, k = m + 7 := ⟨k - 7, by omega⟩
  unfold r1_PlainNum.f
  rw [rright_n neg d e (by omega) (by omega) _ (by omega), obi]
  cases hr : rightN d e with
  | false => rw [if_neg (by decide), if_neg (by decide)]
  | true =>
    rw [if_pos rfl, if_pos rfl]
    have main : r1_PlainNum.j0 (k + 7) (mk (signM neg)) neg (mk d) (mk e) = some ((spellsL neg d (toI e)).map mk) := by
      have hm := signM_len neg
      rw [r1_PlainNum.j0, mk_toList]
      by_cases h0 : d = []
      · have z48 : (⟨#[48]⟩ : ByteArray) = mk [48] := rfl
        rw [if_pos h0, mk_size, if_pos (by omega), z48, mk_append, signM_app]
        unfold spellsL
        rw [if_pos h0]
        rfl
      · rw [if_neg h0]
        obtain ⟨_, _, _, hre⟩ := rightN_spec d e hr h0
        have h1 : 1 ≤ d.length := List.length_pos_iff.2 h0
        rw [rint_f (mk e) (by rw [mk_list]; exact hre) (by rw [mk_size]; exact he) (k + 6) (by omega), obi, mk_list, mk_size]
        have ee : mk e = S (toI e) := by rw [S_mk, right_itoa e hre]
        have hs : (S (toI e)).size ≤ 100000 := by rw [← ee, mk_size]; omega
        rw [ee]
        generalize toI e = E at hs
        have J6 := fun out k ho hk => rj6_plain neg out d E hd h1 hs ho neg k hk
        have hall : spellsL neg d E = (plainL d E).map (signM neg ++ ·) := by
          unfold spellsL
          rw [if_neg h0]
          exact List.map_congr_left fun x _ => (signM_app neg x).symm
        rw [hall]
        have fin : ∀ F : List (List UInt8), firstsL d E = F → (F.map (signM neg ++ ·) ++ [signM neg ++ spell d E] ++ (lastsL d E).map (signM neg ++ ·)).map mk = ((plainL d E).map (signM neg ++ ·)).map mk := by
          intro F h
          unfold plainL
          rw [h]
          simp
        have J5n : ∀ F : List (List UInt8), firstsL d E = F → F.length ≤ 10 → ∀ k x, 3000001 < k → r1_PlainNum.j5 k (mk (signM neg)) (mk d) ((F.map (signM neg ++ ·)).map mk) x (d.length : Int) false neg (mk d) (S E) = some (((plainL d E).map (signM neg ++ ·)).map mk) := by
          intro F h hF k x hk
          obtain ⟨k, rfl⟩ : ∃ m, k = m + 1 := ⟨k - 1, by omega⟩
          rw [r1_PlainNum.j5, if_neg (by decide), J6 _ k (by rw [List.length_map]; exact hF) (by omega), fin F h]
        have nil_ : ([] : List ByteArray) = (([] : List (List UInt8)).map (signM neg ++ ·)).map mk := rfl
        by_cases hbig : -1000000 ≤ E ∧ E ≤ 1000000
        · have hi : intR E = (E, true) := by unfold intR; rw [if_pos hbig]
          rw [hi, if_pos rfl]
          dsimp only
          by_cases hE : E ≥ 0
          · rw [if_pos hE, r1_PlainNum.j1]
            have after : ∀ F : List (List UInt8), firstsL d E = F → F.length ≤ 10 → r1_PlainNum.j2 (k + 5) (mk (signM neg)) (mk d) ((F.map (signM neg ++ ·)).map mk) E true (d.length : Int) neg (mk d) (S E) = some (((plainL d E).map (signM neg ++ ·)).map mk) := by
              intro F h hF
              rw [r1_PlainNum.j2, if_pos rfl, if_neg (by omega), r1_PlainNum.j3, if_neg (by decide), r1_PlainNum.j4, if_pos rfl, w64 (by omega) (by omega), if_neg (by omega)]
              exact J5n F h hF _ _ (by omega)
            by_cases h20 : E ≤ 20
            · rw [if_pos (decide_eq_true h20), mk_size, mk_size, if_pos (by omega)]
              obtain ⟨n, rfl⟩ := Int.eq_ofNat_of_zero_le hE
              rw [rnoughts_f n (by omega) _ (by omega), obi, mk_append, mk_size, mk_size, List.length_replicate, if_pos (by rw [List.length_append]; omega), if_pos (by simp), mk_append]
              have := after [d ++ List.replicate n 48] (by unfold firstsL; rw [if_pos (by omega)]; rfl) (by simp)
              simpa using this
            · rw [if_neg (by simpa using h20)]
              exact after [] (by unfold firstsL; rw [if_neg (by omega), if_neg (by omega), if_neg (by omega)]) (by simp)
          · rw [if_neg hE, r1_PlainNum.j1, if_neg (by decide), r1_PlainNum.j2, if_pos rfl, if_pos (by omega), w64 (by omega) (by omega), r1_PlainNum.j3]
            by_cases hk1 : E > -(d.length : Int)
            · have z46 : (⟨#[46]⟩ : ByteArray) = mk [46] := rfl
              have e1 := mk_take d ((d.length : Int) + E).toNat
              have e2 := mk_drop d ((d.length : Int) + E).toNat
              rw [mk_size] at e2
              rw [if_pos (decide_eq_true hk1), w64 (by omega) (by omega), if_pos (by omega), mk_size, if_pos (by omega), e1, e2, z46, mk_append, mk_append, mk_append, mk_size, mk_size, mk_size, mk_size, mk_size]
              have t1 : (d.take ((d.length : Int) + E).toNat).length ≤ d.length := by rw [List.length_take]; omega
              have t2 : (d.drop ((d.length : Int) + E).toNat).length ≤ d.length := by rw [List.length_drop]; omega
              rw [if_pos (by omega), if_pos (by rw [List.length_append]; omega), if_pos (by rw [List.length_append, List.length_append]; simp; omega), if_pos (by simp), r1_PlainNum.j4, if_pos rfl, w64 (by omega) (by omega), if_neg (by omega)]
              have := J5n [d.take ((d.length : Int) + E).toNat ++ 46 :: d.drop ((d.length : Int) + E).toNat] (by unfold firstsL; rw [if_neg (by omega), if_pos (by omega)]) (by simp) (k + 2) E (by omega)
              simpa using this
            · rw [if_neg (by simpa using hk1), r1_PlainNum.j4, if_pos rfl, w64 (by omega) (by omega), if_pos (by omega), w64 (by omega) (by omega)]
              by_cases h20 : E ≥ -(d.length : Int) - 20
              · have z2 : (⟨#[48, 46]⟩ : ByteArray) = mk [48, 46] := rfl
                rw [decide_eq_true h20, r1_PlainNum.j5, if_pos rfl, mk_size, if_pos (by omega), show wrap64 (-E) = -E from w64 (by omega) (by omega), w64 (by omega) (by omega)]
                obtain ⟨n, hn⟩ := Int.eq_ofNat_of_zero_le (show 0 ≤ -E - (d.length : Int) by omega)
                rw [hn, rnoughts_f n (by omega) _ (by omega), obi, z2, mk_append, mk_append, mk_append, mk_size, mk_size, mk_size, mk_size, List.length_replicate]
                rw [if_pos (by rw [List.length_append]; simp; omega), if_pos (by rw [List.length_append, List.length_append, List.length_replicate]; simp; omega), if_pos (by simp)]
                have h := J6 [signM neg ++ [48, 46] ++ List.replicate n 48 ++ d] (k + 1) (by simp) (by omega)
                have hF : firstsL d E = [48 :: 46 :: (List.replicate n 48 ++ d)] := by
                  unfold firstsL
                  rw [if_neg (by omega), if_neg (by omega), if_pos (by omega), hn]
                  rfl
                have h2 := fin _ hF
                simp only [List.map_cons, List.map_nil] at h2
                rw [← h2]
                simpa using h
              · rw [decide_eq_false h20]
                exact J5n [] (by unfold firstsL; rw [if_neg (by omega), if_neg (by omega), if_neg (by omega)]) (by simp) _ _ (by omega)
        · have hi : intR E = (0, false) := by unfold intR; rw [if_neg hbig]
          rw [hi, if_neg (by decide), r1_PlainNum.j1, if_neg (by decide), r1_PlainNum.j2, if_neg (by decide), r1_PlainNum.j3, if_neg (by decide), r1_PlainNum.j4, if_neg (by decide)]
          exact J5n [] (by unfold firstsL; rw [if_neg (by omega), if_neg (by omega), if_neg (by omega)]) (by simp) _ _ (by omega)
    cases neg with
    | true => rw [if_pos rfl]; exact main
    | false => rw [if_neg (by decide)]; exact main
theorem rleast_go (xs : List (List UInt8)) (hx : xs.length ≤ 100) : ∀ (d k i : Nat) (b : List UInt8), d < k → xs.length < i + d → i ≤ xs.length →
    r1_Shortest.l0 k (xs.map mk) (mk b) (i : Int) = some (mk (least b (xs.drop i))) := by
  intro d
  induction d with
  | zero => intro k i b hk hd hi; omega
  | succ d ih =>
    intro k i b hk hd hi
    obtain ⟨k, rfl⟩ : ∃ m, k = m + 1 := ⟨k - 1, by omega⟩
    simp only [r1_Shortest.l0]
    rw [List.length_map]
    by_cases h : i < xs.length
    · rw [if_pos (by omega), if_pos (by omega), rdOf_at _ i (by rw [List.length_map]; omega), List.getElem_map, mk_size, mk_size, w64 (by omega) (by omega), List.drop_eq_getElem_cons h, least]
      by_cases hc : xs[i].length < b.length
      · rw [if_pos (by omega), if_pos hc]
        exact ih k (i + 1) _ (by omega) (by omega) (by omega)
      · rw [if_neg (by omega), if_neg hc]
        exact ih k (i + 1) _ (by omega) (by omega) (by omega)
    · rw [if_neg (by omega), List.drop_eq_nil_of_le (by omega)]
      rfl
theorem rshortest_f (xs : List (List UInt8)) (hx : xs.length ≤ 100) (k : Nat) (hk : 200 < k) : r1_Shortest.f k (xs.map mk) = some (mk (shortL xs)) := by
  unfold r1_Shortest.f
  rw [List.length_map]
  cases xs with
  | nil => rw [if_pos (by rfl)]; rfl
  | cons x r =>
    simp only [List.length_cons] at hx ⊢
    rw [if_neg (by omega), if_pos (by omega), show (0 : Int) = ((0 : Nat) : Int) from rfl, rdOf_at _ 0 (by simp)]
    have := rleast_go (x :: r) (by simpa using hx) (r.length + 3) k 1 x (by omega) (by simp; omega) (by simp)
    rw [List.drop_succ_cons, List.drop_zero] at this
    have e2 : shortL (x :: r) = least x r := rfl
    rw [e2]
    simpa using this
theorem same_go (xs : List ByteArray) (hx : xs.length ≤ 100) : ∀ (d k i : Nat), d < k → xs.length < i + d → i ≤ xs.length → l5_same.l0 k xs xs (i : Int) = some true := by
  intro d
  induction d with
  | zero => intro k i hk hd hi; omega
  | succ d ih =>
    intro k i hk hd hi
    obtain ⟨k, rfl⟩ : ∃ m, k = m + 1 := ⟨k - 1, by omega⟩
    rw [l5_same.l0]
    by_cases h : i < xs.length
    · rw [if_pos (by omega), if_pos (by omega), if_pos (by omega), if_pos rfl, w64 (by omega) (by omega)]
      exact ih k (i + 1) (by omega) (by omega) (by omega)
    · rw [if_neg (by omega)]
theorem same_f (xs : List ByteArray) (hx : xs.length ≤ 100) (k : Nat) (hk : 200 < k) : l5_same.f k xs xs = some true := by
  unfold l5_same.f
  rw [if_pos rfl]
  exact same_go xs hx (xs.length + 1) k 0 (by omega) (by omega) (by omega)
end Go.Proofs.YthimiidnbnlemaaGreatDoorD
