/- PLAIN LAWS of the reference's functions of chapter 4: what reckon, Add, LessDecimal, Int and Dec come to. -/
import Derived.Test.YthimiidnbnlemaaGreatDoorNumberTellsPDecR
import Derived.Test.YthimiidnbnlemaaGreatDoorNumberTellsPx15
import Derived.Test.YthimiidnbnlemaaGreatDoorNumberTellsPx16
import Derived.Test.YthimiidnbnlemaaGreatDoorNumberTellsPx20
import Derived.Test.YthimiidnbnlemaaGreatDoorNumberTellsPx17
set_option linter.unusedVariables false
set_option linter.unusedSimpArgs false
namespace Go.Proofs.YthimiidnbnlemaaGreatDoorD
open Go.RowKit Go.Proofs.YthimiidnbnlemaaGreatDoorX Go.Proofs.YthimiidnbnlemaaGreatDoor.P Go.Proofs.YthimiidnbnlemaaGreatDoorW.PrintWords Go.Proofs.YthimiidnbnlemaaGreatDoorW.PrintLast Go.Proofs.YthimiidnbnlemaaGreatDoorW.PrintMore
theorem ob {α β : Type} (a : α) (f : α → Option β) : (some a).bind f = f a := (Option.bind_some a f).trans (Eq.refl _)
theorem l2_go (L : List Int) (hL : L.length ≤ 140737488355300) : ∀ (n k : Nat) (out : List Int), n ≤ L.length → n + 1 < k → out.length ≤ 140737488355320 - n →
    r1_reckon.l2 k L out ((n : Int) - 1) = some (strOfNums (out ++ (L.take n).reverse)) := by
  intro n
  induction n with
  | zero =>
    intro k out hn hk ho
    obtain ⟨k, rfl⟩ : ∃ m, k = m + 1 := ⟨k - 1, by omega⟩
    simp only [r1_reckon.l2]
    rw [if_neg (by omega)]
    simp
  | succ n ih =>
    intro k out hn hk ho
    obtain ⟨k, rfl⟩ : ∃ m, k = m + 1 := ⟨k - 1, by omega⟩
    simp only [r1_reckon.l2]
    have e : ((n + 1 : Nat) : Int) - 1 = (n : Int) := by omega
    rw [e, if_pos (by omega), if_pos (by omega), if_pos (by omega), if_pos (by omega), rd_eq L n (by omega), w64 (by omega) (by omega)]
    rw [ih k _ (by omega) (by omega) (by simp; omega)]
    rw [List.take_succ_eq_append_getElem (by omega : n < L.length), List.reverse_append]
    simp
theorem textN_take (L : List Nat) (n : Nat) (h : n < L.length) : textN (L.take (n + 1)) = UInt8.ofNat (48 + L[n]) :: textN (L.take n) := by
  unfold textN
  rw [List.take_succ_eq_append_getElem h, List.map_append, List.reverse_append]
  rfl
theorem ofI_take (L : List Nat) (n : Nat) : (ofI L).take n = ofI (L.take n) := by simp [ofI, List.map_take]
theorem l1_go (L : List Nat) (hL : L.length ≤ 140737488355300) (h10 : ∀ d ∈ L, d < 10) : ∀ (n k : Nat), 1 ≤ n → n ≤ L.length → 2 * n + 10 < k →
    r1_reckon.l1 k (ofI L) (n : Int) = some (S ((lsbN (L.take n) : Nat) : Int)) := by
  have t10 : ∀ n, ∀ d ∈ L.take n, d < 10 := fun n d hd => h10 d (List.mem_of_mem_take hd)
  have stop : ∀ (n k : Nat), 1 ≤ n → n ≤ L.length → n + 5 < k → (textN (L.take n)).head? ≠ some 48 ∨ textN (L.take n) = [48] → r1_reckon.j4 k (ofI L) (n : Int) = some (S ((lsbN (L.take n) : Nat) : Int)) := by
    intro n k h1 hn hk hh
    obtain ⟨k, rfl⟩ : ∃ m, k = m + 1 := ⟨k - 1, by omega⟩
    simp only [r1_reckon.j4]
    rw [w64 (by omega) (by omega), l2_go (ofI L) (by rw [ofI_len]; exact hL) n k [] (by rw [ofI_len]; exact hn) (by omega) (by simp), List.nil_append, ofI_take, strOf_rev _ (t10 n)]
    refine congrArg some (of_list _ _ ?_)
    rw [S_list, Lib.itoa_nonneg, ← textN_val _ (t10 n)]
    refine dec_unique _ (textN_dig _ (t10 n)) ?_ hh
    intro e
    have e' : textN (L.take n) = [] := e
    have := textN_len (L.take n)
    rw [e'] at this
    simp at this
    omega
  intro n
  induction n with
  | zero => intro k h1; omega
  | succ n ih =>
    intro k h1 hn hk
    obtain ⟨k, rfl⟩ : ∃ m, k = m + 1 := ⟨k - 1, by omega⟩
    have ht := textN_take L n (by omega)
    have hd := h10 _ (List.getElem_mem (by omega : n < L.length))
    have hdv := isDig_of _ hd
    simp only [r1_reckon.l1]
    by_cases hn0 : n = 0
    · subst hn0
      rw [if_neg (by omega)]
      refine stop 1 k (by omega) hn (by omega) ?_
      rw [ht]
      simp only [List.take_zero]
      by_cases h0 : L[0] = 0
      · right; rw [h0]; rfl
      · left
        intro e
        have e2 : UInt8.ofNat (48 + L[0]) = 48 := by simpa using e
        have := hdv.2
        rw [e2] at this
        have z : dv 48 = 0 := rfl
        omega
    · have e : ((n + 1 : Nat) : Int) - 1 = (n : Int) := by omega
      rw [if_pos (by omega), w64 (by omega) (by omega), e, if_pos (by omega), if_pos (by rw [ofI_len]; omega), rd_eq _ n (by rw [ofI_len]; omega)]
      have eg : (ofI L)[n]'(by rw [ofI_len]; omega) = 48 + (L[n] : Int) := by simp [ofI]
      rw [eg]
      by_cases h0 : L[n] = 0
      · rw [if_pos (by omega), ih k (by omega) (by omega) (by omega)]
        rw [← textN_val _ (t10 n), ← textN_val _ (t10 (n + 1)), ht, val_cons, hdv.2, h0]
        simp
      · rw [if_neg (by omega)]
        refine stop (n + 1) k (by omega) hn (by omega) ?_
        left
        rw [ht]
        intro e
        have e2 : UInt8.ofNat (48 + L[n]) = 48 := by simpa using e
        have := hdv.2
        rw [e2] at this
        have z : dv 48 = 0 := rfl
        omega
theorem digit_in (s : ByteArray) (hs : s.size ≤ 140737488355300) (h : s.data.toList.all isDig = true) (i : Nat) (hi : i < s.size) : ∃ c, from_ s i = c :: from_ s (i + 1) ∧ dv c < 10 ∧ r1_digit.f s (i : Int) = some (dv c : Int) := by
  obtain ⟨hn, e⟩ := from_cons s i hi
  refine ⟨_, e, dv_lt _ (List.all_eq_true.1 h _ (List.getElem_mem hn)), ?_⟩
  unfold r1_digit.f
  have ix : wrap64 (wrap64 ((s.size : Int) - 1) - (i : Int)) = ((s.size - 1 - i : Nat) : Int) := by rw [w64 (x := (s.size : Int) - 1) (by omega) (by omega), w64 (by omega) (by omega)]; omega
  rw [if_neg (by omega), ix, if_pos (by omega), if_pos (by omega), bt_dig s h _ hn]
theorem digit_out (s : ByteArray) (i : Nat) (hi : s.size ≤ i) : r1_digit.f s (i : Int) = some 0 := by
  unfold r1_digit.f
  rw [if_pos (by omega)]
theorem room_of (out : List Nat) (h : out.length ≤ 140737488355320) : (ofI out).length < 140737488355328 := by rw [ofI_len]; omega
theorem j2_add (k : Nat) (x y : ByteArray) (less : Bool) (out : List Nat) (ho : out.length ≤ 140737488355320) (i n : Nat) (hi : i ≤ 140737488355320) (hn : n < 20) :
    r1_reckon.j2 (k + 1) x y less (ofI out) (i : Int) (n : Int) = r1_reckon.l0 k x y less (ofI (out ++ [n % 10])) ((n / 10 : Nat) : Int) ((i + 1 : Nat) : Int) := by
  simp only [r1_reckon.j2]
  have ei : wrap64 ((i : Int) + 1) = ((i + 1 : Nat) : Int) := by rw [w64 (by omega) (by omega)]; omega
  by_cases h9 : (n : Int) > 9
  · rw [if_pos h9, w64 (x := (n : Int) - 10) (by omega) (by omega), if_neg (by omega), if_pos (room_of out ho), ei, show ((n : Int) - 10 + 48) % 256 = 48 + ((n % 10 : Nat) : Int) by omega, ofI_snoc, show ((n / 10 : Nat) : Int) = 1 by omega]
  · rw [if_neg h9, if_neg (by omega), if_pos (room_of out ho), ei, show ((n : Int) + 48) % 256 = 48 + ((n % 10 : Nat) : Int) by omega, ofI_snoc, show ((n / 10 : Nat) : Int) = 0 by omega]
theorem add_go (x y : ByteArray) (hx : x.data.toList.all isDig = true) (hy : y.data.toList.all isDig = true) (sx : x.size + y.size ≤ 140737488355200) (sy : y.size ≤ 140737488355200) :
    ∀ (d k i c : Nat) (out : List Nat), 3 * d + 2 * (x.size + y.size) + 100 < k → x.size + y.size + 1 < i + d → i ≤ x.size + y.size + 1 → (i ≤ x.size + y.size ∨ c = 0) → c ≤ 1 → out.length = i → (∀ d ∈ out, d < 10) →
      r1_reckon.l0 k x y false (ofI out) (c : Int) (i : Int) = some (S ((lsbN (out ++ plusL (from_ x i) (from_ y i) c) : Nat) : Int)) ∨ out ++ plusL (from_ x i) (from_ y i) c = [] := by
  intro d
  induction d with
  | zero => intro k i c out hk hd hi; omega
  | succ d ih =>
    intro k i c out hk hd hi hi0 hc hol hol10
    obtain ⟨k, rfl⟩ : ∃ m, k = m + 3 := ⟨k - 3, by omega⟩
    have more : ∀ m : Nat, m < 10 → ∀ d ∈ out ++ [m], d < 10 := by
      intro m hm d hd
      rcases List.mem_append.1 hd with h | h
      · exact hol10 d h
      · simp at h; omega
    have go : ∀ (n : Nat), n < 20 → i ≤ x.size + y.size → (i + 1 ≤ x.size + y.size ∨ n < 10) → r1_reckon.j2 (k + 1) x y false (ofI out) (i : Int) (n : Int) = some (S ((lsbN (out ++ n % 10 :: plusL (from_ x (i + 1)) (from_ y (i + 1)) (n / 10)) : Nat) : Int)) := by
      intro n hn hi1 hi2
      rw [j2_add k x y false out (by omega) i n (by omega) hn, List.append_cons out (n % 10) (plusL _ _ _)]
      exact (ih k (i + 1) (n / 10) (out ++ [n % 10]) (by omega) (by omega) (by omega) (by omega) (by omega) (by simp [hol]) (more _ (by omega))).resolve_right (by simp)
    simp only [r1_reckon.l0]
    by_cases hxi : i < x.size
    · left
      obtain ⟨ca, ea, hca, da⟩ := digit_in x (by omega) hx i hxi
      rw [if_pos (by omega)]
      simp only [r1_reckon.j1]
      rw [if_pos trivial, da, ea]
      simp only [ob]
      by_cases hyi : i < y.size
      · obtain ⟨cb, eb, hcb, db⟩ := digit_in y (by omega) hy i hyi
        rw [db, eb]
        simp only [ob]
        rw [if_neg (by simp), w64 (x := (dv ca : Int) + (dv cb : Int)) (by omega) (by omega), w64 (by omega) (by omega)]
        rw [show (dv ca : Int) + (dv cb : Int) + (c : Int) = ((c + dv ca + dv cb : Nat) : Int) by omega]
        unfold plusL
        exact go _ (by omega) (by omega) (by omega)
      · rw [digit_out y i (by omega), from_nil y i (by omega)]
        simp only [ob]
        rw [if_neg (by simp), w64 (x := (dv ca : Int) + 0) (by omega) (by omega), w64 (by omega) (by omega)]
        rw [show (dv ca : Int) + 0 + (c : Int) = ((c + dv ca : Nat) : Int) by omega]
        have := go (c + dv ca) (by omega) (by omega) (by omega)
        rw [from_nil y (i + 1) (by omega)] at this
        unfold plusL
        exact this
    · rw [if_neg (by omega), from_nil x i (by omega)]
      have ex := from_nil x (i + 1) (by omega)
      rw [ex] at go
      by_cases hyi : i < y.size
      · left
        obtain ⟨cb, eb, hcb, db⟩ := digit_in y (by omega) hy i hyi
        rw [if_pos (by omega)]
        simp only [r1_reckon.j1]
        rw [if_pos trivial, digit_out x i (by omega)]
        simp only [ob]
        rw [db, eb]
        simp only [ob]
        rw [if_neg (by simp), w64 (x := 0 + (dv cb : Int)) (by omega) (by omega), w64 (by omega) (by omega)]
        rw [show 0 + (dv cb : Int) + (c : Int) = ((c + dv cb : Nat) : Int) by omega]
        unfold plusL
        exact go _ (by omega) (by omega) (by omega)
      · rw [if_neg (by omega), from_nil y i (by omega)]
        rw [from_nil y (i + 1) (by omega)] at go
        by_cases hc0 : c > 0
        · left
          have hc1 : c = 1 := by omega
          subst hc1
          simp only [r1_reckon.j1]
          rw [if_pos (by decide), digit_out x i (by omega), digit_out y i (by omega)]
          simp only [ob]
          rw [if_neg (by simp), w64 (x := (0 : Int) + 0) (by omega) (by omega), w64 (by omega) (by omega)]
          rw [show (0 : Int) + 0 + ((1 : Nat) : Int) = ((1 : Nat) : Int) by omega]
          have := go 1 (by omega) (by omega) (by omega)
          have e1 : plusL [] [] 1 = [1] := by simp [plusL]
          have e2 : plusL [] [] (1 / 10) = [] := by simp [plusL]
          have e3 : (1 : Nat) % 10 = 1 := by decide
          rw [e2, e3] at this
          rw [e1]
          exact this
        · have hc1 : c = 0 := by omega
          subst hc1
          have e0 : plusL [] [] 0 = [] := by simp [plusL]
          rw [e0, List.append_nil]
          by_cases ho : out = []
          · exact .inr ho
          · left
            simp only [r1_reckon.j1]
            rw [if_neg (by decide), ofI_len]
            have := l1_go out (by omega) hol10 out.length (k + 1) (List.length_pos_iff.2 ho) (Nat.le_refl _) (by omega)
            rw [List.take_length] at this
            exact this
theorem reckon_add (x y : ByteArray) (hx : x.data.toList.all isDig = true) (hy : y.data.toList.all isDig = true) (sx : x.size + y.size ≤ 140737488355200) (sy : y.size ≤ 140737488355200) (hne : 0 < x.size) (k : Nat) (hk : 10 * (x.size + y.size) + 1000 < k) :
    r1_reckon.f k x y false = some (S ((val x.data.toList + val y.data.toList : Nat) : Int)) := by
  have h := add_go x y hx hy sx sy (x.size + y.size + 2) k 0 0 [] (by omega) (by omega) (by omega) (by omega) (by omega) rfl (by simp)
  rw [List.nil_append, plusL_val _ _ _ (by omega) (from_all x hx 0) (from_all y hy 0), from_zero, from_zero] at h
  refine h.resolve_right ?_
  obtain ⟨hn, e⟩ := from_cons x 0 hne
  rw [e]
  cases from_ y 0 <;> simp [plusL]
theorem j2_neg (k : Nat) (x y : ByteArray) (less : Bool) (out : List Nat) (ho : out.length ≤ 140737488355320) (i n : Nat) (hi : i ≤ 140737488355320) (hn : n < 10) :
    r1_reckon.j2 (k + 1) x y less (ofI out) (i : Int) ((n : Int) - 10) = r1_reckon.l0 k x y less (ofI (out ++ [n])) 1 ((i + 1 : Nat) : Int) := by
  simp only [r1_reckon.j2]
  have ei : wrap64 ((i : Int) + 1) = ((i + 1 : Nat) : Int) := by rw [w64 (by omega) (by omega)]; omega
  rw [if_neg (by omega), if_pos (by omega), if_pos (room_of out ho), ei, w64 (by omega) (by omega), show ((n : Int) - 10 + 10 + 48) % 256 = 48 + ((n : Nat) : Int) by omega, ofI_snoc]
theorem j2_pos (k : Nat) (x y : ByteArray) (less : Bool) (out : List Nat) (ho : out.length ≤ 140737488355320) (i n : Nat) (hi : i ≤ 140737488355320) (hn : n < 10) :
    r1_reckon.j2 (k + 1) x y less (ofI out) (i : Int) (n : Int) = r1_reckon.l0 k x y less (ofI (out ++ [n])) 0 ((i + 1 : Nat) : Int) := by
  have := j2_add k x y less out ho i n hi (by omega)
  rw [show n % 10 = n by omega, show n / 10 = 0 by omega] at this
  exact this
theorem sub_go (x y : ByteArray) (hx : x.data.toList.all isDig = true) (hy : y.data.toList.all isDig = true) (sx : x.size ≤ 140737488355200) (sy : y.size ≤ x.size) :
    ∀ (d k i c : Nat) (out : List Nat), 3 * d + 2 * x.size + 100 < k → x.size < i + d → i ≤ x.size → c ≤ 1 → lsb (from_ y i) + c ≤ lsb (from_ x i) → out.length = i → (∀ d ∈ out, d < 10) →
      r1_reckon.l0 k x y true (ofI out) (c : Int) (i : Int) = some (S ((lsbN (out ++ minusL (from_ x i) (from_ y i) c) : Nat) : Int)) ∨ out ++ minusL (from_ x i) (from_ y i) c = [] := by
  intro d
  induction d with
  | zero => intro k i c out hk hd hi; omega
  | succ d ih =>
    intro k i c out hk hd hi hc hle hol hol10
    obtain ⟨k, rfl⟩ : ∃ m, k = m + 3 := ⟨k - 3, by omega⟩
    have more : ∀ m : Nat, m < 10 → ∀ d ∈ out ++ [m], d < 10 := by
      intro m hm d hd
      rcases List.mem_append.1 hd with h | h
      · exact hol10 d h
      · simp at h; omega
    have rec_ : ∀ (n c' : Nat), n < 10 → c' ≤ 1 → i < x.size → lsb (from_ y (i + 1)) + c' ≤ lsb (from_ x (i + 1)) →
        r1_reckon.l0 k x y true (ofI (out ++ [n])) (c' : Int) ((i + 1 : Nat) : Int) = some (S ((lsbN (out ++ n :: minusL (from_ x (i + 1)) (from_ y (i + 1)) c') : Nat) : Int)) := by
      intro n c' hn hc' hi1 hl
      rw [List.append_cons out n (minusL _ _ _)]
      exact (ih k (i + 1) c' (out ++ [n]) (by omega) (by omega) (by omega) hc' hl (by simp [hol]) (more _ hn)).resolve_right (by simp)
    simp only [r1_reckon.l0]
    by_cases hxi : i < x.size
    · left
      obtain ⟨ca, ea, hca, da⟩ := digit_in x (by omega) hx i hxi
      rw [if_pos (by omega)]
      simp only [r1_reckon.j1]
      rw [if_pos trivial, da, ea]
      rw [ea] at hle
      simp only [ob]
      by_cases hyi : i < y.size
      · obtain ⟨cb, eb, hcb, db⟩ := digit_in y (by omega) hy i hyi
        rw [eb] at hle
        simp only [lsb] at hle
        rw [db, eb]
        simp only [ob]
        rw [if_pos trivial]
        rw [w64 (x := (dv ca : Int) - (dv cb : Int)) (by omega) (by omega), w64 (by omega) (by omega)]
        unfold minusL
        by_cases hlt : dv ca < c + dv cb
        · rw [if_pos hlt, show (dv ca : Int) - (dv cb : Int) - (c : Int) = ((dv ca + 10 - c - dv cb : Nat) : Int) - 10 by omega, j2_neg k x y true out (by omega) i _ (by omega) (by omega)]
          exact rec_ _ 1 (by omega) (by omega) hxi (by omega)
        · rw [if_neg hlt, show (dv ca : Int) - (dv cb : Int) - (c : Int) = ((dv ca - c - dv cb : Nat) : Int) by omega, j2_pos k x y true out (by omega) i _ (by omega) (by omega)]
          exact rec_ _ 0 (by omega) (by omega) hxi (by omega)
      · have ey := from_nil y (i + 1) (by omega)
        rw [ey] at rec_
        rw [digit_out y i (by omega), from_nil y i (by omega)]
        rw [from_nil y i (by omega)] at hle
        simp only [lsb] at hle
        simp only [ob]
        rw [if_pos trivial]
        rw [w64 (x := (dv ca : Int) - 0) (by omega) (by omega), w64 (by omega) (by omega)]
        have e0 : lsb ([] : List UInt8) = 0 := rfl
        unfold minusL
        by_cases hlt : dv ca < c
        · rw [if_pos hlt, show (dv ca : Int) - 0 - (c : Int) = ((dv ca + 10 - c : Nat) : Int) - 10 by omega, j2_neg k x y true out (by omega) i _ (by omega) (by omega)]
          exact rec_ _ 1 (by omega) (by omega) hxi (by omega)
        · rw [if_neg hlt, show (dv ca : Int) - 0 - (c : Int) = ((dv ca - c : Nat) : Int) by omega, j2_pos k x y true out (by omega) i _ (by omega) (by omega)]
          exact rec_ _ 0 (by omega) (by omega) hxi (by omega)
    · rw [if_neg (by omega), if_neg (by omega)]
      rw [from_nil x i (by omega)] at hle ⊢
      have e0 : lsb ([] : List UInt8) = 0 := rfl
      have hc0 : c = 0 := by omega
      subst hc0
      have em : ∀ z, minusL [] z 0 = [] := fun z => by simp [minusL]
      rw [em, List.append_nil]
      by_cases ho : out = []
      · exact .inr ho
      · left
        simp only [r1_reckon.j1]
        rw [if_neg (by decide), ofI_len]
        have := l1_go out (by omega) hol10 out.length (k + 1) (List.length_pos_iff.2 ho) (Nat.le_refl _) (by omega)
        rw [List.take_length] at this
        exact this
theorem reckon_sub (x y : ByteArray) (hx : x.data.toList.all isDig = true) (hy : y.data.toList.all isDig = true) (sx : x.size ≤ 140737488355200) (sy : y.size ≤ x.size) (hle : val y.data.toList ≤ val x.data.toList) (hne : 0 < x.size) (k : Nat) (hk : 10 * x.size + 1000 < k) :
    r1_reckon.f k x y true = some (S ((val x.data.toList - val y.data.toList : Nat) : Int)) := by
  have hl : lsb (from_ y 0) + 0 ≤ lsb (from_ x 0) := by rw [from_zero, from_zero]; omega
  have h := sub_go x y hx hy sx sy (x.size + 1) k 0 0 [] (by omega) (by omega) (by omega) (by omega) hl rfl (by simp)
  have hv := minusL_val (from_ x 0) (from_ y 0) 0 (by omega) (from_all x hx 0) (from_all y hy 0) hl
  rw [from_zero, from_zero] at hv
  rw [List.nil_append, show lsbN (minusL (from_ x 0) (from_ y 0) 0) = val x.data.toList - val y.data.toList by omega] at h
  refine h.resolve_right ?_
  obtain ⟨hn, e⟩ := from_cons x 0 hne
  rw [e]
  cases from_ y 0 <;> (unfold minusL; split <;> simp)
theorem rsign_f (s : ByteArray) (h : rightL s.data.toList = true) : r1_sign.f s = some ((cutMinus s.data.toList).2, ⟨(cutMinus s.data.toList).1.toArray⟩) := by
  have hz := Lib.size_eq s
  unfold r1_sign.f
  cases hl : s.data.toList with
  | nil => rw [hl] at h; exact absurd h (by decide)
  | cons c r =>
    rw [hl] at hz
    have hz' : s.size = r.length + 1 := hz
    rw [if_pos (by omega), bt0 s c r hl]
    by_cases hc : c = 45
    · subst hc
      rw [if_pos (by rfl), if_pos (by omega)]
      have ht := tail_list s 45 r hl
      have : s.extract 1 s.size = ⟨r.toArray⟩ := of_list _ _ (by rw [ht])
      rw [this]
      rfl
    · have hc' := toNat_ne hc
      have e3 : (((45 : UInt8).toNat : Nat) : Int) = 45 := rfl
      rw [e3] at hc'
      rw [if_neg hc']
      have ecut : cutMinus (c :: r) = (c :: r, false) := by
        unfold cutMinus
        split
        · rename_i h; injection h with h; exact absurd h hc
        · rfl
      rw [ecut, ← hl, mk_eta]
theorem rsmaller_f (m n : Nat) : r1_smaller.f ⟨(Lib.decDigits m).toArray⟩ ⟨(Lib.decDigits n).toArray⟩ = some (decide (m < n)) := by
  unfold r1_smaller.f
  rw [Lib.size_mk, Lib.size_mk]
  have hc := dec_cmp m n
  by_cases h1 : (Lib.decDigits m).length < (Lib.decDigits n).length
  · rw [if_pos (by omega)]
    have : m < n := hc.1 (.inl h1)
    simp [this]
  · rw [if_neg (by omega)]
    by_cases h2 : (Lib.decDigits m).length = (Lib.decDigits n).length
    · rw [if_pos (by omega), Lib.toList_data, Lib.toList_data, less_compare]
      refine congrArg some (decide_eq_decide.2 ?_)
      rw [← hc]
      constructor
      · intro h; exact .inr ⟨h2, h⟩
      · rintro (h | h)
        · omega
        · exact h.2
    · rw [if_neg (by omega)]
      have : ¬ m < n := fun h => by rcases hc.2 h with h | h <;> omega
      simp [this]
theorem S_zero_iff (n : Int) : (S n).toList = ([48] : List UInt8) ↔ n = 0 := by
  have e : ([48] : List UInt8) = (S 0).toList := by
    rw [Lib.toList_data, S_list]; show [48] = Lib.itoa ((0 : Nat) : Int); rw [Lib.itoa_nonneg, dec_zero]
  rw [e, toList_inj]
  exact ⟨S_inj, fun h => by rw [h]⟩
theorem minus_S (n : Nat) (h : 0 < n) : (⟨#[45]⟩ : ByteArray) ++ S (n : Int) = S (-(n : Int)) := by
  have := neg_S (n : Int)
  rw [if_neg (by omega), if_neg (by omega)] at this
  exact this
theorem signed_f (p : Bool) (v : Nat) (hv : (S (v : Int)).size ≤ 9000000000000000000) (h : p = true → v = 0 → True) :
    (if p = true then (if (S (v : Int)).toList = ([48] : List UInt8) then (some (S (v : Int), true)) else (if 1 + (S (v : Int)).size ≤ 9223372036854775807 then (some ((⟨#[45]⟩ : ByteArray) ++ S (v : Int), true)) else (none))) else (some (S (v : Int), true))) = some (S (if p = true then -(v : Int) else (v : Int)), true) := by
  cases p with
  | false => rw [if_neg (by simp), if_neg (by simp)]
  | true =>
    rw [if_pos rfl, if_pos rfl]
    by_cases hz : v = 0
    · subst hz
      have e0 : ((0 : Nat) : Int) = 0 := rfl
      rw [if_pos ((S_zero_iff _).2 e0)]; rfl
    · rw [if_neg (fun h => hz (by have := (S_zero_iff _).1 h; omega)), if_pos (by omega), minus_S v (by omega)]
theorem radd_f (a b : ByteArray) (ha : rightL a.data.toList = true) (hb : rightL b.data.toList = true) (sa : a.size + b.size ≤ 140737488355100) (sb : b.size ≤ 140737488355100) (k : Nat) (hk : 20 * (a.size + b.size) + 2000 < k) :
    r1_Add.f k a b = some (S (toI a.data.toList + toI b.data.toList), true) := by
  obtain ⟨k, rfl⟩ : ∃ m, k = m + 1 := ⟨k - 1, by omega⟩
  unfold r1_Add.f
  rw [right_f a (by omega) _ (by omega), ha]
  simp only [ob]
  rw [if_pos trivial, right_f b (by omega) _ (by omega), hb]
  simp only [ob, Bool.not_true]
  simp only [r1_Add.j0]
  rw [if_neg (by simp), rsign_f a ha, rsign_f b hb]
  simp only [ob]
  obtain ⟨ea, na⟩ := rightL_spec _ ha
  obtain ⟨eb, nb⟩ := rightL_spec _ hb
  have da := right_dig _ ha
  have db := right_dig _ hb
  have la := cut_len a.data.toList
  have lb := cut_len b.data.toList
  have fa := val_lt_pow _ da
  have fb := val_lt_pow _ db
  rw [← Lib.size_eq] at la lb
  have ha0 : 0 < (cutMinus a.data.toList).1.length := by rw [ea]; exact List.length_pos_iff.2 (dec_ne _)
  have hb0 : 0 < (cutMinus b.data.toList).1.length := by rw [eb]; exact List.length_pos_iff.2 (dec_ne _)
  unfold toI
  generalize (cutMinus a.data.toList).1 = x at *
  generalize (cutMinus b.data.toList).1 = y at *
  generalize (cutMinus a.data.toList).2 = p at *
  generalize (cutMinus b.data.toList).2 = q at *
  have sx : (⟨x.toArray⟩ : ByteArray).size = x.length := Lib.size_mk x
  have sy : (⟨y.toArray⟩ : ByteArray).size = y.length := Lib.size_mk y
  have gx : Fits (val x : Int) x.length := by unfold Fits; omega
  have gy : Fits (val y : Int) y.length := by unfold Fits; omega
  by_cases hpq : p = q
  · subst hpq
    rw [if_pos (by simp), reckon_add ⟨x.toArray⟩ ⟨y.toArray⟩ da db (by omega) (by omega) (by omega) k (by omega)]
    simp only [ob]
    show (if p = true then (if (S ((val x + val y : Nat) : Int)).toList = _ then _ else _) else _) = _
    have gz : Fits ((val x + val y : Nat) : Int) (x.length + y.length + 1) := by
      have := (gx.mono (n := x.length + y.length) (by omega)).add (gy.mono (n := x.length + y.length) (by omega))
      rw [show ((val x + val y : Nat) : Int) = (val x : Int) + (val y : Int) by omega]; exact this
    have hs := S_size_le _ _ gz (by omega)
    rw [signed_f p (val x + val y) (by omega) (fun _ _ => trivial)]
    congr 3
    cases p <;> simp <;> omega
  · rw [if_neg (by simpa using hpq)]
    have hsm : r1_smaller.f ⟨x.toArray⟩ ⟨y.toArray⟩ = some (decide (val x < val y)) := by
      have := rsmaller_f (val x) (val y)
      rw [← ea, ← eb] at this
      exact this
    rw [hsm]
    simp only [ob]
    by_cases hlt : val x < val y
    · rw [if_pos (by simpa using hlt)]
      have hl2 : x.length ≤ y.length := by
        by_cases hle : x.length ≤ y.length
        · exact hle
        · have := dec_len_lt (m := val y) (n := val x) (by rw [← ea, ← eb]; omega); omega
      rw [reckon_sub ⟨y.toArray⟩ ⟨x.toArray⟩ db da (by omega) (by omega) (by show val x ≤ val y; omega) (by omega) k (by omega)]
      simp only [ob]
      show (if q = true then (if (S ((val y - val x : Nat) : Int)).toList = _ then _ else _) else _) = _
      have gz : Fits ((val y - val x : Nat) : Int) y.length := by unfold Fits; omega
      have hs := S_size_le _ _ gz (by omega)
      rw [signed_f q (val y - val x) (by omega) (fun _ _ => trivial)]
      congr 3
      cases p <;> cases q <;> simp at * <;> omega
    · rw [if_neg (by simpa using hlt)]
      have hl2 : y.length ≤ x.length := by
        by_cases hle : y.length ≤ x.length
        · exact hle
        · have := dec_len_lt (m := val x) (n := val y) (by rw [← ea, ← eb]; omega); omega
      rw [reckon_sub ⟨x.toArray⟩ ⟨y.toArray⟩ da db (by omega) (by omega) (by show val y ≤ val x; omega) (by omega) k (by omega)]
      simp only [ob]
      show (if p = true then (if (S ((val x - val y : Nat) : Int)).toList = _ then _ else _) else _) = _
      have gz : Fits ((val x - val y : Nat) : Int) x.length := by unfold Fits; omega
      have hs := S_size_le _ _ gz (by omega)
      rw [signed_f p (val x - val y) (by omega) (fun _ _ => trivial)]
      congr 3
      cases p <;> cases q <;> simp at * <;> omega
def fold (acc : Nat) (l : List UInt8) : Nat := l.foldl (fun a c => 10 * a + dv c) acc
theorem fold_ge : ∀ (l : List UInt8) (acc : Nat), acc ≤ fold acc l
  | [], acc => Nat.le_refl _
  | c :: r, acc => by
    show acc ≤ fold (10 * acc + dv c) r
    have := fold_ge r (10 * acc + dv c); omega
theorem parse_dig : ∀ (l : List UInt8) (acc : Nat), l.all isDig = true → acc < 18446744073709551616 →
    (fold acc l < 18446744073709551616 → Lib.parseUint10 acc l = .ok (fold acc l)) ∧ (18446744073709551616 ≤ fold acc l → Lib.parseUint10 acc l = .range)
  | [], acc, _, ha => ⟨fun _ => rfl, fun h => absurd h (by show ¬ _ ≤ acc; omega)⟩
  | c :: r, acc, h, ha => by
    simp only [List.all_cons, Bool.and_eq_true] at h
    have hc := (isDig_iff c).1 h.1
    have hd : dv c = c.toNat - 48 := rfl
    have e : fold acc (c :: r) = fold (10 * acc + dv c) r := rfl
    rw [e]
    have hg := fold_ge r (10 * acc + dv c)
    unfold Lib.parseUint10
    rw [if_pos hc, show acc * 10 + (c.toNat - 48) = 10 * acc + dv c by omega]
    by_cases h1 : 1844674407370955162 ≤ acc
    · rw [if_pos h1]
      exact ⟨fun h => by omega, fun _ => rfl⟩
    · rw [if_neg h1]
      by_cases h2 : 18446744073709551616 ≤ 10 * acc + dv c
      · rw [if_pos h2]
        exact ⟨fun h => by omega, fun _ => rfl⟩
      · rw [if_neg h2]
        exact parse_dig r _ h.2 (by omega)
theorem parseMag_dig (l : List UInt8) (h : l.all isDig = true) (hne : l ≠ []) : (val l < 18446744073709551616 → Lib.parseMag l = .ok (val l)) ∧ (18446744073709551616 ≤ val l → Lib.parseMag l = .range) := by
  unfold Lib.parseMag
  rw [if_neg hne]
  exact parse_dig l 0 h (by omega)
def intR (n : Int) : Int × Bool := if -1000000 ≤ n ∧ n ≤ 1000000 then (n, true) else (0, false)
theorem intL_right (l : List UInt8) (h : rightL l = true) : intL l = intR (toI l) := by
  have hd := right_dig l h
  obtain ⟨e, hn⟩ := rightL_spec l h
  have hne : (cutMinus l).1 ≠ [] := by rw [e]; exact dec_ne _
  obtain ⟨p1, p2⟩ := parseMag_dig _ hd hne
  unfold intL intR toI
  cases l with
  | nil => exact absurd h (by decide)
  | cons c r =>
    by_cases hc : c = 45
    · subst hc
      have ec : cutMinus (45 :: r) = (r, true) := rfl
      rw [ec] at p1 p2 ⊢
      simp only [if_true] at p1 p2 ⊢
      have ea : Lib.atoiAll (45 :: r) = (match Lib.parseMag r with
        | .ok u => if 9223372036854775808 < u then .range else .ok (-(u : Int))
        | .range => .range
        | z => Lib.atoiAll []) := by
        unfold Lib.atoiAll
        have e45 : (45 : UInt8).toNat = 45 := rfl
        simp only [e45]
        rw [if_pos (by simp)]
        cases Lib.parseMag r with
        | ok u => simp
        | range => rfl
        | _ => rfl
      by_cases hv : val r < 18446744073709551616
      · rw [ea, p1 hv]
        simp only []
        by_cases h3 : 9223372036854775808 < val r
        · rw [if_pos h3]
          simp only []
          have h5 : ¬ (-1000000 ≤ -((val r : Nat) : Int) ∧ -((val r : Nat) : Int) ≤ 1000000) := fun h => by have := h.1; omega
          rw [if_neg h5]
        · rw [if_neg h3, h]
          simp only []
          by_cases h4 : -1000000 ≤ -((val r : Nat) : Int) ∧ -((val r : Nat) : Int) ≤ 1000000
          · rw [if_pos ⟨trivial, h4⟩, if_pos h4]
          · rw [if_neg (fun z => h4 z.2), if_neg h4]
      · rw [ea, p2 (by omega)]
        simp only []
        rw [if_neg (by omega)]
    · have ec : cutMinus (c :: r) = (c :: r, false) := by
        unfold cutMinus
        split
        · rename_i h; injection h with h; exact absurd h hc
        · rfl
      rw [ec] at p1 p2 hd ⊢
      simp only [Bool.false_eq_true, if_false] at p1 p2 hd ⊢
      have hcd : isDig c = true := by
        have h2 : (c :: r).all isDig = true := hd
        simp only [List.all_cons, Bool.and_eq_true] at h2; exact h2.1
      have hcn := (isDig_iff c).1 hcd
      have ea : Lib.atoiAll (c :: r) = (match Lib.parseMag (c :: r) with
        | .ok u => if 9223372036854775808 ≤ u then .range else .ok ((u : Int))
        | .range => .range
        | z => Lib.atoiAll []) := by
        unfold Lib.atoiAll
        simp only []
        rw [if_neg (by omega)]
        have hcf : ¬ c.toNat = 45 := by omega
        cases Lib.parseMag (c :: r) with
        | ok u => simp [hcf]
        | range => rfl
        | _ => rfl
      by_cases hv : val (c :: r) < 18446744073709551616
      · rw [ea, p1 hv]
        simp only []
        by_cases h3 : 9223372036854775808 ≤ val (c :: r)
        · rw [if_pos h3]
          simp only []
          rw [if_neg (by omega)]
        · rw [if_neg h3, h]
          simp only []
          by_cases h4 : -1000000 ≤ ((val (c :: r) : Nat) : Int) ∧ ((val (c :: r) : Nat) : Int) ≤ 1000000
          · rw [if_pos ⟨trivial, h4⟩, if_pos h4]
          · rw [if_neg (fun z => h4 z.2), if_neg h4]
      · rw [ea, p2 (by omega)]
        simp only []
        rw [if_neg (by omega)]
theorem rint_go (s : ByteArray) (neg : Bool) (hd : s.data.toList.all isDig = true) (hs : s.size ≤ 8) : ∀ (d k i n : Nat), d < k → s.size < i + d → i ≤ s.size → n < 10 ^ i →
    r1_Int.l0 k neg s (n : Int) (i : Int) = some (if 1000000 < fold n (s.data.toList.drop i) then (0, false) else if neg = true then (-((fold n (s.data.toList.drop i) : Nat) : Int), true) else (((fold n (s.data.toList.drop i) : Nat) : Int), true)) := by
  intro d
  induction d with
  | zero => intro k i n hk hd hi; omega
  | succ d ih =>
    intro k i n hk hdd hi hn
    obtain ⟨k, rfl⟩ : ∃ m, k = m + 1 := ⟨k - 1, by omega⟩
    have hz := Lib.size_eq s
    have hp : 10 ^ i ≤ 10 ^ 8 := Nat.pow_le_pow_right (by omega) (by omega)
    have h8 : (10 : Nat) ^ 8 = 100000000 := by decide
    simp only [r1_Int.l0]
    by_cases h : i < s.size
    · have hl : i < s.data.toList.length := by omega
      have hc := dv_lt _ (List.all_eq_true.1 hd _ (List.getElem_mem hl))
      rw [if_pos (by omega), if_pos (by omega), bt_dig s hd i hl, List.drop_eq_getElem_cons hl]
      generalize s.data.toList[i] = c at *
      have e1 : wrap64 (wrap64 (10 * (n : Int)) + (dv c : Int)) = ((10 * n + dv c : Nat) : Int) := by rw [w64 (x := 10 * (n : Int)) (by omega) (by omega), w64 (by omega) (by omega)]; omega
      rw [e1, w64 (by omega) (by omega)]
      exact ih k (i + 1) (10 * n + dv c) (by omega) (by omega) (by omega) (by rw [Nat.pow_succ]; omega)
    · rw [if_neg (by omega), List.drop_eq_nil_of_le (by omega)]
      show _ = some (if 1000000 < n then _ else if neg = true then (-((n : Nat) : Int), true) else (((n : Nat) : Int), true))
      by_cases h1 : 1000000 < n
      · rw [if_pos (by omega), if_pos h1]
      · rw [if_neg (by omega), if_neg h1]
        cases neg with
        | true => rw [if_pos rfl, if_pos rfl, w64 (by omega) (by omega)]
        | false => rw [if_neg (by simp), if_neg (by simp)]
theorem cut_len2 (l : List UInt8) : l.length ≤ (cutMinus l).1.length + 1 := by unfold cutMinus; split <;> simp
theorem rint_f (a : ByteArray) (ha : rightL a.data.toList = true) (sa : a.size ≤ 10000) (k : Nat) (hk : 20010 < k) : r1_Int.f k a = some (intR (toI a.data.toList)) := by
  obtain ⟨k, rfl⟩ : ∃ m, k = m + 1 := ⟨k - 1, by omega⟩
  unfold r1_Int.f
  rw [right_f a (by omega) _ (by omega), ha]
  simp only [ob]
  rw [if_pos trivial]
  have da := right_dig _ ha
  obtain ⟨ea, na⟩ := rightL_spec _ ha
  have la := cut_len a.data.toList
  have hz := Lib.size_eq a
  have hcl := cut_len2 a.data.toList
  by_cases h8 : a.size > 8
  · have e : decide ((a.size : Int) > 8) = true := by simp; omega
    rw [e]
    simp only [r1_Int.j0]
    rw [if_pos trivial]
    have hbig : 10 ^ 7 ≤ val (cutMinus a.data.toList).1 := by
      by_cases hlt : val (cutMinus a.data.toList).1 < 10 ^ 7
      · have := dec_len_le _ 7 hlt (by omega)
        rw [← ea] at this; omega
      · omega
    have h7 : (10 : Nat) ^ 7 = 10000000 := by decide
    unfold intR toI
    split <;> rw [if_neg (by omega)]
  · have e : decide ((a.size : Int) > 8) = false := by simp; omega
    rw [e]
    simp only [r1_Int.j0]
    rw [if_neg (by simp), rsign_f a ha]
    simp only [ob]
    unfold toI
    generalize (cutMinus a.data.toList).1 = x at *
    generalize (cutMinus a.data.toList).2 = p at *
    have sx : (⟨x.toArray⟩ : ByteArray).size = x.length := Lib.size_mk x
    have := rint_go ⟨x.toArray⟩ p da (by omega) (x.length + 1) k 0 0 (by omega) (by omega) (by omega) (by decide)
    rw [List.drop_zero] at this
    have ev : fold 0 (⟨x.toArray⟩ : ByteArray).data.toList = val x := rfl
    rw [ev] at this
    have e0 : ((0 : Nat) : Int) = 0 := rfl
    rw [e0] at this
    rw [this]
    refine congrArg some ?_
    unfold intR
    cases p with
    | true =>
      simp only [if_true]
      by_cases h1 : 1000000 < val x
      · rw [if_pos h1, if_neg (by omega)]
      · rw [if_neg h1, if_pos (by omega)]
    | false =>
      simp only [Bool.false_eq_true, if_false]
      by_cases h1 : 1000000 < val x
      · rw [if_pos h1, if_neg (by omega)]
      · rw [if_neg h1, if_pos (by omega)]
theorem dec_one (d : Nat) (h : d < 10) : ((⟨#[48, 49, 50, 51, 52, 53, 54, 55, 56, 57]⟩ : ByteArray).extract d (d + 1)).data.toList = [UInt8.ofNat (48 + d)] := by
  have : ∀ d : Fin 10, ((⟨#[48, 49, 50, 51, 52, 53, 54, 55, 56, 57]⟩ : ByteArray).extract d.val (d.val + 1)).data.toList = [UInt8.ofNat (48 + d.val)] := by decide
  exact this ⟨d, h⟩
theorem dec_go : ∀ (k n : Nat), n < 10 ^ (k + 1) → n ≤ 1000000000000000000 → r1_Dec.f (k + 1) (n : Int) = some ⟨(Lib.decDigits n).toArray⟩ := by
  intro k
  induction k with
  | zero =>
    intro n hn hm
    have hn : n < 10 := by simpa using hn
    have em : Int.tmod (n : Int) 10 = ((n % 10 : Nat) : Int) := rfl
    simp only [r1_Dec.f]
    rw [if_neg (by omega), em, w64 (by omega) (by omega), if_pos (by omega), if_pos (by omega), if_pos (by omega), if_neg (by omega)]
    refine congrArg some (of_list _ _ ?_)
    rw [show (((n % 10 : Nat) : Int)).toNat = n % 10 by omega, show (((n % 10 : Nat) : Int) + 1).toNat = n % 10 + 1 by omega, dec_one _ (by omega), Lib.decDigits_one hn]
    rw [show n % 10 = n by omega]
  | succ k ih =>
    intro n hn hm
    have em : Int.tmod (n : Int) 10 = ((n % 10 : Nat) : Int) := rfl
    have ed : Int.tdiv (n : Int) 10 = ((n / 10 : Nat) : Int) := rfl
    have e1 := dec_one (n % 10) (by omega)
    simp only [r1_Dec.f]
    rw [if_neg (by omega), em, w64 (x := ((n % 10 : Nat) : Int) + 1) (by omega) (by omega), if_pos (by omega), if_pos (by omega), if_pos (by omega)]
    rw [show (((n % 10 : Nat) : Int)).toNat = n % 10 by omega, show (((n % 10 : Nat) : Int) + 1).toNat = n % 10 + 1 by omega]
    by_cases h9 : n > 9
    · rw [if_pos (by omega), ed, w64 (by omega) (by omega)]
      have hi := ih (n / 10) (by rw [Nat.pow_succ] at hn; omega) (by omega)
      simp only [r1_Dec.f] at hi
      rw [hi]
      simp only [ob]
      have hs : ((⟨#[48, 49, 50, 51, 52, 53, 54, 55, 56, 57]⟩ : ByteArray).extract (n % 10) (n % 10 + 1)).size = 1 := by rw [Lib.size_eq, e1]; rfl
      have hl := dec_len_le (n / 10) 18 (by omega) (by omega)
      rw [hs, if_pos (by rw [Lib.size_mk]; omega)]
      refine congrArg some (of_list _ _ ?_)
      have := dec_step (n / 10) (n % 10) (by omega) (by omega)
      rw [show 10 * (n / 10) + n % 10 = n by omega] at this
      rw [this]
      show _ = Lib.decDigits (n / 10) ++ _
      rw [← e1]
      simp
    · rw [if_neg (by omega)]
      refine congrArg some (of_list _ _ ?_)
      rw [e1, Lib.decDigits_one (by omega), show n % 10 = n by omega]
theorem dec_f (n : Int) (h1 : -100000000000000000 ≤ n) (h2 : n ≤ 100000000000000000) (k : Nat) (hk : 30 < k) : r1_Dec.f k n = some (S n) := by
  obtain ⟨k, rfl⟩ : ∃ m, k = m + 2 := ⟨k - 2, by omega⟩
  have hp : (10 : Nat) ^ 19 ≤ 10 ^ (k + 1) := Nat.pow_le_pow_right (by omega) (by omega)
  have h19 : (10 : Nat) ^ 19 = 10000000000000000000 := by decide
  by_cases h0 : n < 0
  · obtain ⟨m, rfl⟩ : ∃ m : Nat, n = -(m : Int) := ⟨n.natAbs, by omega⟩
    have := dec_go k m (by omega) (by omega)
    unfold r1_Dec.f
    rw [if_pos h0, Int.neg_neg, w64 (by omega) (by omega), this]
    simp only [ob]
    have hl := dec_len_le m 18 (by omega) (by omega)
    rw [if_pos (by rw [Lib.size_mk]; omega)]
    refine congrArg some (of_list _ _ ?_)
    rw [S_list, Lib.itoa_neg _ (by omega)]
    simp
  · obtain ⟨m, rfl⟩ : ∃ m : Nat, n = (m : Int) := ⟨n.toNat, by omega⟩
    have hp2 : (10 : Nat) ^ 19 ≤ 10 ^ (k + 1 + 1) := Nat.pow_le_pow_right (by omega) (by omega)
    have := dec_go (k + 1) m (by omega) (by omega)
    rw [this]
    refine congrArg some (of_list _ _ ?_)
    rw [S_list, Lib.itoa_nonneg]
end Go.Proofs.YthimiidnbnlemaaGreatDoorD
