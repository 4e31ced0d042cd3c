/- ColourBack: all spellings of a colour are one token, that colour. -/
import Derived.Test.YthonpnaccjajcaaDoorColourBackPHash
import Derived.Test.YthonpnaccjajcaaDoorColourBackPColR
import Derived.Test.YthonpnaccjajcaaDoorColourBackPx23
import Derived.Test.YthonpnaccjajcaaDoorColourBackPx4
import Derived.Test.YthonpnaccjajcaaDoorColourBackPx19
import Derived.Test.YthonpnaccjajcaaDoorColourBackPx22
set_option linter.unusedVariables false
set_option linter.unusedSimpArgs false
namespace Go.Proofs.YthonpnaccjajcaaDoor.Pure
open Go.RowKit Go.Proofs.YthonpnaccjajcaaDoorX Go.Proofs.YthonpnaccjajcaaDoorC Go.Proofs.YthonpnaccjajcaaDoor.P Go.Proofs.YthonpnaccjajcaaDoorW.PrintWords Go.Proofs.YthonpnaccjajcaaDoorW.PrintLast Go.Proofs.YthonpnaccjajcaaDoorW.PrintMore
def Good (c0 c1 c2 c3 : Int) (x : ByteArray) : Prop := x.size ≤ 100 ∧ ∃ R t, r13_Runes.f 400 (bytesOf x) = some R ∧ r13_Clex.f 400 R = some [t] ∧ colour_Read.f t.f0 t.f1 t.f2 t.f3.f0 t.f3.f1 t.f3.f2 t.f4 t.f5 t.f6.f0 t.f6.f1 t.f6.f2 t.f6.f3 t.f7 = some (c0, c1, c2, c3, true)
theorem back_loop (c0 c1 c2 c3 : Int) (L : List ByteArray) (hL : L.length < 100000) (H : ∀ x ∈ L, Good c0 c1 c2 c3 x) : ∀ (d i k : Nat), L.length = i + d → d + 400 < k → l19_ColourBack.l1 k L (i : Int) c0 c1 c2 c3 = some true
  | 0, i, k + 1, hi, hk => by rw [l19_ColourBack.l1, if_neg (by omega)]
  | d + 1, i, k + 1, hi, hk => by
    have hlt : i < L.length := by omega
    have hr : rdOf ByteArray.empty L (i : Int) = L[i] := by
      unfold rdOf
      rw [Int.toNat_natCast, List.getD_eq_getElem?_getD, List.getElem?_eq_getElem hlt]
      rfl
    obtain ⟨hs, R, t, h1, h2, h3⟩ := H L[i] (List.getElem_mem hlt)
    rw [l19_ColourBack.l1, if_pos (by omega), if_pos (by omega), hr, if_pos (by omega)]
    rw [mono_upto (fun k => r13_Runes.mono _ k) (show 400 ≤ k by omega) h1, ob, mono_upto (fun k => r13_Clex.mono _ k) (show 400 ≤ k by omega) h2, ob]
    rw [if_pos (show (([t] : List S39).length : Int) = 1 from rfl), if_pos (show (0 : Int) < (([t] : List S39).length : Int) by simp), show rd_T39 [t] 0 = t from rfl, h3, ob]
    dsimp only
    rw [if_pos rfl, if_neg (by simp), w64n i (by omega)]
    exact back_loop c0 c1 c2 c3 L hL H d (i + 1) k (by omega) (by omega)
theorem hexc_all : ∀ n : Nat, n < 16 → dgt (n : Int) = ⟨#[sm.data.toList.getD n 0]⟩ ∧ hexI ((sm.data.toList.getD n 0).toNat : Int) ∧ hexB (sm.data.toList.getD n 0) = true ∧ (sm.data.toList.getD n 0).toNat < 128 ∧ ixB (sm.data.toList.getD n 0) = (n : Int) := by
  unfold hexI
  decide +kernel
structure Dd (n : Int) (x : UInt8) : Prop where
  d : dgt n = ⟨#[x]⟩
  i : hexI (x.toNat : Int)
  b : hexB x = true
  x7 : x.toNat < 128
  v : ixB x = n
theorem dd_of (n : Int) (h0 : 0 ≤ n) (h1 : n < 16) : ∃ x, Dd n x := by
  obtain ⟨m, rfl⟩ := Int.eq_ofNat_of_zero_le h0
  obtain ⟨a, b, c, d, e⟩ := hexc_all m (by omega)
  exact ⟨_, a, b, c, d, e⟩
theorem hash_good (ds : List UInt8) (h1 : 1 ≤ ds.length) (h2 : ds.length ≤ 10) (H : ∀ x ∈ ds, hexI (x.toNat : Int)) (c0 c1 c2 c3 : Int)
    (hr : ∀ a2 a4 a5 : ByteArray, ∀ a3 a6 a7 : Bool, ∀ a8 a9 a10 a11 a12 : Int, colour_Read.f 4 ⟨ds.toArray⟩ a2 a3 a4 a5 a6 a7 a8 a9 a10 a11 a12 = some (c0, c1, c2, c3, true)) : Good c0 c1 c2 c3 ⟨(35 :: ds).toArray⟩ := by
  have hl : bytesOf ⟨(35 :: ds).toArray⟩ = (35 : Int) :: ds.map fun b => (b.toNat : Int) := by unfold bytesOf; rfl
  have hlen : (bytesOf ⟨(35 :: ds).toArray⟩).length = ds.length + 1 := by rw [hl]; simp
  have hat : ∀ j, (hj : j < ds.length) → (bytesOf ⟨(35 :: ds).toArray⟩).getD (j + 1) 0 = ((ds[j]'hj).toNat : Int) := fun j hj => by
    rw [hl, List.getD_cons_succ, List.getD_eq_getElem?_getD, List.getElem?_map, List.getElem?_eq_getElem hj]; rfl
  have h0 : (bytesOf ⟨(35 :: ds).toArray⟩).getD 0 0 = 35 := by rw [hl]; rfl
  have hx : ∀ j, 1 ≤ j → j < (bytesOf ⟨(35 :: ds).toArray⟩).length → hexI ((bytesOf ⟨(35 :: ds).toArray⟩).getD j 0) := fun j h1 h2 => by
    obtain ⟨i, rfl⟩ : ∃ i, j = i + 1 := ⟨j - 1, by omega⟩
    rw [hat i (by omega)]
    exact H _ (List.getElem_mem _)
  refine ⟨by show (35 :: ds).toArray.size ≤ 100; simp; omega, runesA (bytesOf ⟨(35 :: ds).toArray⟩) (bytesOf ⟨(35 :: ds).toArray⟩).length, ?_⟩
  obtain ⟨b, hb⟩ := clex_hash (bytesOf ⟨(35 :: ds).toArray⟩) (by omega) (by omega) h0 hx 400 (by omega)
  refine ⟨_, runes_asc _ (by omega) (fun i hi => ?_) 400 (by omega), hb, ?_⟩
  · by_cases e : i = 0
    · subst e; rw [h0]; decide
    · have := hx i (by omega) hi
      unfold hexI at this
      omega
  · have e : strOfNums ((List.range' 1 ((bytesOf ⟨(35 :: ds).toArray⟩).length - 1)).map fun j => (bytesOf ⟨(35 :: ds).toArray⟩).getD j 0) = ⟨ds.toArray⟩ := by
      have : (List.range' 1 ((bytesOf ⟨(35 :: ds).toArray⟩).length - 1)).map (fun j => (bytesOf ⟨(35 :: ds).toArray⟩).getD j 0) = ds.map fun b => (b.toNat : Int) := by
        rw [hlen, Nat.add_sub_cancel]
        refine List.ext_getElem (by simp) fun i h1 h2 => ?_
        rw [List.length_map] at h2
        rw [List.getElem_map, List.getElem_range', List.getElem_map, show 1 + 1 * i = i + 1 by omega, hat i h2]
      rw [this]
      unfold strOfNums
      congr 1
      rw [List.map_map]
      congr 1
      refine (List.map_congr_left fun x _ => ?_).trans (List.map_id _)
      show UInt8.ofNat ((x.toNat : Int).toNat) = x
      rw [Int.toNat_natCast]
      exact UInt8.ofNat_toNat
    show colour_Read.f 4 (strOfNums _) _ _ _ _ _ _ _ _ _ _ _ = _
    rw [e]
    exact hr _ _ _ _ _ _ _ _ _ _ _
theorem short3 (c0 c1 c2 : Int) (a0 : 0 ≤ c0 ∧ c0 ≤ 255) (a1 : 0 ≤ c1 ∧ c1 ≤ 255) (a2 : 0 ≤ c2 ∧ c2 ≤ 255) (hd : dblK (cAt c0 c1 c2 255) 3 = true) : Good c0 c1 c2 255 (shortK (cAt c0 c1 c2 255) 3) := by
  obtain ⟨x, X⟩ := dd_of (c0 % 16) (by omega) (by omega)
  obtain ⟨y, Y⟩ := dd_of (c1 % 16) (by omega) (by omega)
  obtain ⟨z, Z⟩ := dd_of (c2 % 16) (by omega) (by omega)
  have hd' : (((true && (c0 % 17 == 0)) && (c1 % 17 == 0)) && (c2 % 17 == 0)) = true := hd
  simp only [Bool.true_and, Bool.and_eq_true, beq_iff_eq] at hd'
  show Good c0 c1 c2 255 (((⟨#[35]⟩ ++ dgt (c0 % 16)) ++ dgt (c1 % 16)) ++ dgt (c2 % 16))
  rw [X.d, Y.d, Z.d]
  refine hash_good [x, y, z] (by simp) (by simp) (by simp [X.i, Y.i, Z.i]) c0 c1 c2 255 (fun _ _ _ _ _ _ _ _ _ _ _ => ?_)
  have := read3 x y z X.x7 Y.x7 Z.x7 X.b Y.b Z.b
  rw [X.v, Y.v, Z.v, show c0 % 16 * 17 = c0 by omega, show c1 % 16 * 17 = c1 by omega, show c2 % 16 * 17 = c2 by omega] at this
  exact this _ _ _ _ _ _ _ _ _ _ _
theorem short4 (c0 c1 c2 c3 : Int) (a0 : 0 ≤ c0 ∧ c0 ≤ 255) (a1 : 0 ≤ c1 ∧ c1 ≤ 255) (a2 : 0 ≤ c2 ∧ c2 ≤ 255) (a3 : 0 ≤ c3 ∧ c3 ≤ 255) (hd : dblK (cAt c0 c1 c2 c3) 4 = true) : Good c0 c1 c2 c3 (shortK (cAt c0 c1 c2 c3) 4) := by
  obtain ⟨x, X⟩ := dd_of (c0 % 16) (by omega) (by omega)
  obtain ⟨y, Y⟩ := dd_of (c1 % 16) (by omega) (by omega)
  obtain ⟨z, Z⟩ := dd_of (c2 % 16) (by omega) (by omega)
  obtain ⟨u, U⟩ := dd_of (c3 % 16) (by omega) (by omega)
  have hd' : ((((true && (c0 % 17 == 0)) && (c1 % 17 == 0)) && (c2 % 17 == 0)) && (c3 % 17 == 0)) = true := hd
  simp only [Bool.true_and, Bool.and_eq_true, beq_iff_eq] at hd'
  show Good c0 c1 c2 c3 ((((⟨#[35]⟩ ++ dgt (c0 % 16)) ++ dgt (c1 % 16)) ++ dgt (c2 % 16)) ++ dgt (c3 % 16))
  rw [X.d, Y.d, Z.d, U.d]
  refine hash_good [x, y, z, u] (by simp) (by simp) (by simp [X.i, Y.i, Z.i, U.i]) c0 c1 c2 c3 (fun _ _ _ _ _ _ _ _ _ _ _ => ?_)
  have := read4 x y z u X.x7 Y.x7 Z.x7 U.x7 X.b Y.b Z.b U.b
  rw [X.v, Y.v, Z.v, U.v, show c0 % 16 * 17 = c0 by omega, show c1 % 16 * 17 = c1 by omega, show c2 % 16 * 17 = c2 by omega, show c3 % 16 * 17 = c3 by omega] at this
  exact this _ _ _ _ _ _ _ _ _ _ _
theorem long3 (c0 c1 c2 : Int) (a0 : 0 ≤ c0 ∧ c0 ≤ 255) (a1 : 0 ≤ c1 ∧ c1 ≤ 255) (a2 : 0 ≤ c2 ∧ c2 ≤ 255) : Good c0 c1 c2 255 (longK (cAt c0 c1 c2 255) 3) := by
  obtain ⟨x, X⟩ := dd_of (c0 / 16) (by omega) (by omega)
  obtain ⟨y, Y⟩ := dd_of (c1 / 16) (by omega) (by omega)
  obtain ⟨z, Z⟩ := dd_of (c2 / 16) (by omega) (by omega)
  obtain ⟨x', X'⟩ := dd_of (c0 % 16) (by omega) (by omega)
  obtain ⟨y', Y'⟩ := dd_of (c1 % 16) (by omega) (by omega)
  obtain ⟨z', Z'⟩ := dd_of (c2 % 16) (by omega) (by omega)
  show Good c0 c1 c2 255 (((⟨#[35]⟩ ++ (dgt (c0 / 16) ++ dgt (c0 % 16))) ++ (dgt (c1 / 16) ++ dgt (c1 % 16))) ++ (dgt (c2 / 16) ++ dgt (c2 % 16)))
  rw [X.d, Y.d, Z.d, X'.d, Y'.d, Z'.d]
  refine hash_good [x, x', y, y', z, z'] (by simp) (by simp) (by simp [X.i, Y.i, Z.i, X'.i, Y'.i, Z'.i]) c0 c1 c2 255 (fun _ _ _ _ _ _ _ _ _ _ _ => ?_)
  have := read6 x x' y y' z z' X.x7 Y.x7 Z.x7 X'.x7 Y'.x7 Z'.x7 X.b Y.b Z.b X'.b Y'.b Z'.b
  rw [X.v, Y.v, Z.v, X'.v, Y'.v, Z'.v, show c0 / 16 * 16 + c0 % 16 = c0 by omega, show c1 / 16 * 16 + c1 % 16 = c1 by omega, show c2 / 16 * 16 + c2 % 16 = c2 by omega] at this
  exact this _ _ _ _ _ _ _ _ _ _ _
theorem long4 (c0 c1 c2 c3 : Int) (a0 : 0 ≤ c0 ∧ c0 ≤ 255) (a1 : 0 ≤ c1 ∧ c1 ≤ 255) (a2 : 0 ≤ c2 ∧ c2 ≤ 255) (a3 : 0 ≤ c3 ∧ c3 ≤ 255) : Good c0 c1 c2 c3 (longK (cAt c0 c1 c2 c3) 4) := by
  obtain ⟨x, X⟩ := dd_of (c0 / 16) (by omega) (by omega)
  obtain ⟨y, Y⟩ := dd_of (c1 / 16) (by omega) (by omega)
  obtain ⟨z, Z⟩ := dd_of (c2 / 16) (by omega) (by omega)
  obtain ⟨u, U⟩ := dd_of (c3 / 16) (by omega) (by omega)
  obtain ⟨x', X'⟩ := dd_of (c0 % 16) (by omega) (by omega)
  obtain ⟨y', Y'⟩ := dd_of (c1 % 16) (by omega) (by omega)
  obtain ⟨z', Z'⟩ := dd_of (c2 % 16) (by omega) (by omega)
  obtain ⟨u', U'⟩ := dd_of (c3 % 16) (by omega) (by omega)
  show Good c0 c1 c2 c3 ((((⟨#[35]⟩ ++ (dgt (c0 / 16) ++ dgt (c0 % 16))) ++ (dgt (c1 / 16) ++ dgt (c1 % 16))) ++ (dgt (c2 / 16) ++ dgt (c2 % 16))) ++ (dgt (c3 / 16) ++ dgt (c3 % 16)))
  rw [X.d, Y.d, Z.d, U.d, X'.d, Y'.d, Z'.d, U'.d]
  refine hash_good [x, x', y, y', z, z', u, u'] (by simp) (by simp) (by simp [X.i, Y.i, Z.i, U.i, X'.i, Y'.i, Z'.i, U'.i]) c0 c1 c2 c3 (fun _ _ _ _ _ _ _ _ _ _ _ => ?_)
  have := read8 x x' y y' z z' u u' X.x7 Y.x7 Z.x7 U.x7 X'.x7 Y'.x7 Z'.x7 U'.x7 X.b Y.b Z.b X'.b Y'.b Z'.b U.b U'.b
  rw [X.v, Y.v, Z.v, U.v, X'.v, Y'.v, Z'.v, U'.v, show c0 / 16 * 16 + c0 % 16 = c0 by omega, show c1 / 16 * 16 + c1 % 16 = c1 by omega, show c2 / 16 * 16 + c2 % 16 = c2 by omega, show c3 / 16 * 16 + c3 % 16 = c3 by omega] at this
  exact this _ _ _ _ _ _ _ _ _ _ _
theorem LK4_all (N : List ByteArray) (P4 : Nat → Int × Int × Int × Int × Bool) (c0 c1 c2 c3 : Int) : ∀ n, ∀ x ∈ LK4 N P4 c0 c1 c2 c3 n, ∃ j, j < n ∧ x = rdOf ByteArray.empty N (j : Int) ∧ (P4 j).1 = c0 ∧ (P4 j).2.1 = c1 ∧ (P4 j).2.2.1 = c2 ∧ (P4 j).2.2.2.1 = c3
  | 0, x, h => absurd h List.not_mem_nil
  | n + 1, x, h => by
    simp only [LK4] at h
    split at h
    · rename_i hp
      rcases List.mem_append.1 h with h | h
      · obtain ⟨j, h1, h2⟩ := LK4_all N P4 c0 c1 c2 c3 n x h
        exact ⟨j, by omega, h2⟩
      · simp only [Bool.and_eq_true, beq_iff_eq] at hp
        exact ⟨n, by omega, List.mem_singleton.1 h, hp.1, hp.2.1, hp.2.2.1, hp.2.2.2⟩
    · obtain ⟨j, h1, h2⟩ := LK4_all N P4 c0 c1 c2 c3 n x h
      exact ⟨j, by omega, h2⟩
def lexN (x : ByteArray) : Option (List S39) := (r13_Runes.f 400 (bytesOf x)).bind fun R => r13_Clex.f 400 R
def tokB (t : S39) (x : ByteArray) : Bool := t.f0 == 1 && t.f1.data.toList == x.data.toList
set_option maxRecDepth 100000 in
theorem names_lex : ∀ j, j < 38 → (match lexN (rdOf ByteArray.empty namesL (j : Nat)) with | some [t] => tokB t (rdOf ByteArray.empty namesL (j : Nat)) | _ => false) = true ∧ (p4C j).2.2.2.2 = true := by decide +kernel
theorem names_good (j : Nat) (hj : j < 38) : Good (p4C j).1 (p4C j).2.1 (p4C j).2.2.1 (p4C j).2.2.2.1 (rdOf ByteArray.empty namesL (j : Int)) := by
  obtain ⟨h1, h2⟩ := names_lex j hj
  obtain ⟨h3, h4⟩ := names_ascii j hj
  unfold lexN at h1
  refine ⟨by omega, ?_⟩
  cases hR : r13_Runes.f 400 (bytesOf (rdOf ByteArray.empty namesL (j : Int))) with
  | none => rw [hR] at h1; cases h1
  | some R =>
    rw [hR, ob] at h1
    cases hT : r13_Clex.f 400 R with
    | none => rw [hT] at h1; cases h1
    | some T =>
      rw [hT] at h1
      match T, hT, h1 with
      | [t], hT, h1 =>
        refine ⟨R, t, rfl, hT, ?_⟩
        unfold tokB at h1
        simp only [Bool.and_eq_true, beq_iff_eq] at h1
        obtain ⟨e0, e1⟩ := h1
        have e1' : t.f1 = rdOf ByteArray.empty namesL (j : Int) := (tl_iff _ _).1 (by rw [Lib.toList_data, Lib.toList_data]; exact e1)
        rw [e0, e1']
        unfold colour_Read.f
        rw [if_pos rfl]
        have hs := ok_names' j hj
        rw [← names_at] at hs
        have hp : colour_Named.f 400 (rdOf ByteArray.empty namesL (j : Int)) = some (p4C j) := by
          unfold p4C
          rw [← names_at]
          cases hc : colour_Named.f 400 (rdOf ByteArray.empty namesL (j : Int)) with
          | none => rw [hc] at hs; cases hs
          | some q => rfl
        have hp2 : colour_Named.f 1000 (rdOf ByteArray.empty namesL (j : Int)) = some (p4C j) := mono_upto (fun k => colour_Named.mono _ k) (by decide) hp
        first | rw [hp2] | rw [hp]
        rw [← h2]
theorem spell_good (c0 c1 c2 c3 : Int) (a0 : 0 ≤ c0 ∧ c0 ≤ 255) (a1 : 0 ≤ c1 ∧ c1 ≤ 255) (a2 : 0 ≤ c2 ∧ c2 ≤ 255) (a3 : 0 ≤ c3 ∧ c3 ≤ 255) : ∃ L, colour_Spell.f c0 c1 c2 c3 = some L ∧ 1 ≤ L.length ∧ L.length < 1000 ∧ ∀ x ∈ L, Good c0 c1 c2 c3 x := by
  have hr : rngb (cAt c0 c1 c2 c3) (colour_Spell.n c3) = true := by
    by_cases h3 : c3 = 255
    · subst h3; rw [n255]; exact rng3 _ _ _ _ ⟨a0, a1, a2⟩
    · rw [n_other _ h3]; exact rng4 _ _ _ _ ⟨a0, a1, a2, a3⟩
  have hn : ∀ x ∈ LK4 namesL p4C c0 c1 c2 c3 38, Good c0 c1 c2 c3 x := fun x hx => by
    obtain ⟨j, hj, rfl, e0, e1, e2, e3⟩ := LK4_all _ _ _ _ _ _ 38 x hx
    have := names_good j hj
    rw [e0, e1, e2, e3] at this
    exact this
  have hlen := LK4_short namesL p4C c0 c1 c2 c3 38
  refine ⟨_, spell_eq c0 c1 c2 c3, ?_, ?_, ?_⟩
  · rw [if_pos hr]; simp; omega
  · rw [if_pos hr, List.length_append, List.length_append]
    split <;> simp <;> omega
  · rw [if_pos hr]
    intro x hx
    rcases List.mem_append.1 hx with hx | hx
    · rcases List.mem_append.1 hx with hx | hx
      · split at hx
        · rename_i hd
          obtain rfl := List.mem_singleton.1 hx
          by_cases h3 : c3 = 255
          · subst h3; rw [n255] at hd ⊢; exact short3 c0 c1 c2 a0 a1 a2 hd
          · rw [n_other _ h3] at hd ⊢; exact short4 c0 c1 c2 c3 a0 a1 a2 a3 hd
        · exact absurd hx List.not_mem_nil
      · obtain rfl := List.mem_singleton.1 hx
        by_cases h3 : c3 = 255
        · subst h3; rw [n255]; exact long3 c0 c1 c2 a0 a1 a2
        · rw [n_other _ h3]; exact long4 c0 c1 c2 c3 a0 a1 a2 a3
    · exact hn x hx
theorem spell_none (c0 c1 c2 c3 : Int) (h : ¬ ((0 ≤ c0 ∧ c0 ≤ 255) ∧ (0 ≤ c1 ∧ c1 ≤ 255) ∧ (0 ≤ c2 ∧ c2 ≤ 255) ∧ (0 ≤ c3 ∧ c3 ≤ 255))) : colour_Spell.f c0 c1 c2 c3 = some [] := by
  rw [spell_eq, if_neg ?_]
  intro hr
  rw [rngb_iff] at hr
  refine h ?_
  by_cases h3 : c3 = 255
  · rw [h3, n255] at hr
    exact ⟨hr 0 (by decide), hr 1 (by decide), hr 2 (by decide), by omega⟩
  · rw [n_other _ h3] at hr
    exact ⟨hr 0 (by decide), hr 1 (by decide), hr 2 (by decide), hr 3 (by decide)⟩
theorem ColourBack : l19_ColourBack.Pure := by
  intro c0 c1 c2 c3 _ _ _ _
  refine ⟨3000, ?_⟩
  unfold l19_ColourBack.f
  rw [great_alive 3000 (by omega), ob]
  have w0 : wrap64 (0 + 1) = 1 := by unfold wrap64; omega
  have w1 : wrap64 (1 + 1) = 2 := by unfold wrap64; omega
  have w2 : wrap64 (2 + 1) = 3 := by unfold wrap64; omega
  have w3 : wrap64 (3 + 1) = 4 := by unfold wrap64; omega
  have out : ∀ {b : Bool}, (¬ ((0 ≤ c0 ∧ c0 ≤ 255) ∧ (0 ≤ c1 ∧ c1 ≤ 255) ∧ (0 ≤ c2 ∧ c2 ≤ 255) ∧ (0 ≤ c3 ∧ c3 ≤ 255))) → ((colour_Spell.f c0 c1 c2 c3).bind fun t => (some ((t.length : Int) == 0))) = some true := fun h => by rw [spell_none _ _ _ _ h, ob]; rfl
  rw [l19_ColourBack.l0, if_pos (by decide), if_pos rfl, w0]
  by_cases h : c0 < 0
  · rw [if_pos h, if_pos rfl]; exact out (b := true) (by omega)
  rw [if_neg h]
  by_cases h : c0 > 255
  · rw [if_pos h, if_pos rfl]; exact out (b := true) (by omega)
  rw [if_neg h]
  rw [l19_ColourBack.l0, if_pos (by decide), if_neg (by decide), if_pos rfl, w1]
  by_cases h : c1 < 0
  · rw [if_pos h, if_pos rfl]; exact out (b := true) (by omega)
  rw [if_neg h]
  by_cases h : c1 > 255
  · rw [if_pos h, if_pos rfl]; exact out (b := true) (by omega)
  rw [if_neg h]
  rw [l19_ColourBack.l0, if_pos (by decide), if_neg (by decide), if_neg (by decide), if_pos rfl, w2]
  by_cases h : c2 < 0
  · rw [if_pos h, if_pos rfl]; exact out (b := true) (by omega)
  rw [if_neg h]
  by_cases h : c2 > 255
  · rw [if_pos h, if_pos rfl]; exact out (b := true) (by omega)
  rw [if_neg h]
  rw [l19_ColourBack.l0, if_pos (by decide), if_neg (by decide), if_neg (by decide), if_neg (by decide), if_pos rfl, w3]
  by_cases h : c3 < 0
  · rw [if_pos h, if_pos rfl]; exact out (b := true) (by omega)
  rw [if_neg h]
  by_cases h : c3 > 255
  · rw [if_pos h, if_pos rfl]; exact out (b := true) (by omega)
  rw [if_neg h]
  obtain ⟨L, h1, h2, h3, h4⟩ := spell_good c0 c1 c2 c3 (by omega) (by omega) (by omega) (by omega)
  rw [l19_ColourBack.l0, if_neg (by decide), h1, ob, if_pos rfl, l19_ColourBack.j1, show ((L.length : Int) == 0) = false from beq_eq_false_iff_ne.2 (by omega), if_neg (by decide)]
  exact back_loop c0 c1 c2 c3 L (by omega) h4 L.length 0 _ (by omega) (by omega)
end Go.Proofs.YthonpnaccjajcaaDoor.Pure
