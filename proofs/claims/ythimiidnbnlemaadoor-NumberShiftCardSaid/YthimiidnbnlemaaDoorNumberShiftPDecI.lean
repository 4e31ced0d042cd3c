/- PLAIN LAWS of the printed functions of package decimal: what each comes to, as a whole number's one spelling. -/
import Derived.Test.YthimiidnbnlemaaDoorNumberShiftPDec
import Derived.Test.YthimiidnbnlemaaDoorNumberShiftPx3
import Derived.Test.YthimiidnbnlemaaDoorNumberShiftPx4
import Derived.Test.YthimiidnbnlemaaDoorNumberShiftPx5
import Derived.Test.YthimiidnbnlemaaDoorNumberShiftPx6
import Derived.Test.YthimiidnbnlemaaDoorNumberShiftPx0
import Derived.Test.YthimiidnbnlemaaDoorNumberShiftPx2
set_option linter.unusedVariables false
set_option linter.unusedSimpArgs false
namespace Go.Proofs.YthimiidnbnlemaaDoorD
open Go.RowKit Go.Proofs.YthimiidnbnlemaaDoorX Go.Proofs.YthimiidnbnlemaaDoor.P Go.Proofs.YthimiidnbnlemaaDoorW.PrintWords Go.Proofs.YthimiidnbnlemaaDoorW.PrintLast Go.Proofs.YthimiidnbnlemaaDoorW.PrintMore
theorem w64 {x : Int} (h1 : -9223372036854775808 ≤ x) (h2 : x ≤ 9223372036854775807) : wrap64 x = x := by unfold wrap64; omega
theorem bt_eq (s : ByteArray) (n : Nat) (h : n < s.data.toList.length) : bt s (n : Int) = ((s.data.toList[n]'h).toNat : Int) := by
  have h' : n < s.size := by rw [Lib.size_eq]; exact h
  simp only [bt, Int.toNat_natCast]
  rw [dif_pos h']
  rfl
theorem rd_eq (xs : List Int) (n : Nat) (h : n < xs.length) : rd xs (n : Int) = xs[n] := by
  simp [rd, List.getElem?_eq_getElem h]
theorem rev_go (xs : List Int) (hn : xs.length ≤ 140737488355328) : ∀ (d k : Nat) (ys : List Int) (i j : Int), d < k → j - i < d → 0 ≤ i → i + j = (xs.length : Int) - 1 → ys.length = xs.length →
    (∀ m : Nat, m < xs.length → ys[m]? = if i ≤ (m : Int) ∧ (m : Int) ≤ j then xs[m]? else xs[xs.length - 1 - m]?) → slices_Reverse_byte_byte.l0 k ys i j = some xs.reverse := by
  have fin : ∀ (ys : List Int) (i j : Int), ¬ i < j → i + j = (xs.length : Int) - 1 → ys.length = xs.length →
      (∀ m : Nat, m < xs.length → ys[m]? = if i ≤ (m : Int) ∧ (m : Int) ≤ j then xs[m]? else xs[xs.length - 1 - m]?) → ys = xs.reverse := by
    intro ys i j hij hs hl hp
    apply List.ext_getElem?
    intro m
    by_cases hm : m < xs.length
    · rw [hp m hm, List.getElem?_reverse hm]
      split
      · congr 1; omega
      · rfl
    · rw [List.getElem?_eq_none (by omega), List.getElem?_eq_none (by simp; omega)]
  intro d
  induction d with
  | zero =>
    intro k ys i j hk hd h0 hs hl hp
    obtain ⟨k, rfl⟩ : ∃ m, k = m + 1 := ⟨k - 1, by omega⟩
    simp only [slices_Reverse_byte_byte.l0]
    rw [if_neg (by omega), fin ys i j (by omega) hs hl hp]
  | succ d ih =>
    intro k ys i j hk hd h0 hs hl hp
    obtain ⟨k, rfl⟩ : ∃ m, k = m + 1 := ⟨k - 1, by omega⟩
    simp only [slices_Reverse_byte_byte.l0]
    by_cases hij : i < j
    · obtain ⟨a, rfl⟩ := Int.eq_ofNat_of_zero_le h0
      obtain ⟨b, rfl⟩ := Int.eq_ofNat_of_zero_le (show 0 ≤ j by omega)
      have ha : a < xs.length := by omega
      have hb : b < xs.length := by omega
      rw [if_pos hij, if_pos (by omega), if_pos (by omega), if_pos h0, if_pos (by omega), w64 (by omega) (by omega), w64 (by omega) (by omega)]
      refine ih k _ _ _ (by omega) (by omega) (by omega) (by omega) (by simp [hl]) ?_
      intro m hm
      simp only [Int.toNat_natCast]
      rw [rd_eq ys b (by omega), rd_eq ys a (by omega), List.getElem?_set, List.getElem?_set]
      have pa := hp a ha
      have pb := hp b hb
      rw [if_pos ⟨by omega, by omega⟩, List.getElem?_eq_getElem (show a < ys.length by omega), List.getElem?_eq_getElem ha] at pa
      rw [if_pos ⟨by omega, by omega⟩, List.getElem?_eq_getElem (show b < ys.length by omega), List.getElem?_eq_getElem hb] at pb
      have pa := Option.some.inj pa
      have pb := Option.some.inj pb
      by_cases e1 : b = m
      · subst e1
        rw [if_pos rfl, if_pos (by simp; omega), pa, if_neg (by omega)]
        rw [show xs.length - 1 - b = a by omega, List.getElem?_eq_getElem ha]
      · rw [if_neg e1]
        by_cases e2 : a = m
        · subst e2
          rw [if_pos rfl, if_pos (by omega), pb, if_neg (by omega)]
          rw [show xs.length - 1 - a = b by omega, List.getElem?_eq_getElem hb]
        · rw [if_neg e2, hp m hm]
          by_cases h3 : (a : Int) ≤ (m : Int) ∧ (m : Int) ≤ (b : Int)
          · rw [if_pos h3, if_pos (by omega)]
          · rw [if_neg h3, if_neg (by omega)]
    · rw [if_neg hij, fin ys i j hij hs hl hp]
theorem rev_f (k : Nat) (xs : List Int) (hn : xs.length ≤ 140737488355328) (hk : xs.length + 1 < k) : slices_Reverse_byte_byte.f k xs = some xs.reverse := by
  unfold slices_Reverse_byte_byte.f
  rw [w64 (by omega) (by omega)]
  refine rev_go xs hn (xs.length + 1) k xs 0 _ (by omega) (by omega) (by omega) (by omega) rfl ?_
  intro m hm
  rw [if_pos ⟨by omega, by omega⟩]
def ofI (l : List Nat) : List Int := l.map (fun d : Nat => (48 : Int) + (d : Int))
theorem strOf_rev (l : List Nat) (h : ∀ d ∈ l, d < 10) : strOfNums (ofI l).reverse = ⟨(textN l).toArray⟩ := by
  unfold strOfNums ofI textN
  rw [← List.map_reverse, ← List.map_reverse, List.map_map]
  congr 2
theorem mk_eta (s : ByteArray) : (⟨s.data.toList.toArray⟩ : ByteArray) = s := by
  obtain ⟨⟨l⟩⟩ := s; rfl
theorem bt_dig (s : ByteArray) (h : s.data.toList.all isDig = true) (n : Nat) (hn : n < s.data.toList.length) : (bt s (n : Int) - 48) % 256 = (dv (s.data.toList[n]'hn) : Int) := by
  rw [bt_eq s n hn]
  have := (isDig_iff _).1 (List.all_eq_true.1 h _ (List.getElem_mem hn))
  unfold dv
  omega
def from_ (s : ByteArray) (i : Nat) : List UInt8 := s.data.toList.reverse.drop i
theorem from_all (s : ByteArray) (h : s.data.toList.all isDig = true) (i : Nat) : (from_ s i).all isDig = true := by
  rw [List.all_eq_true] at *
  intro x hx
  exact h x (by have := List.mem_of_mem_drop hx; simpa using this)
theorem from_cons (s : ByteArray) (i : Nat) (h : i < s.size) : ∃ hn : s.size - 1 - i < s.data.toList.length, from_ s i = s.data.toList[s.size - 1 - i] :: from_ s (i + 1) := by
  have hz := Lib.size_eq s
  refine ⟨by omega, ?_⟩
  unfold from_
  rw [List.drop_eq_getElem_cons (by simpa using (by omega : i < s.data.toList.length))]
  congr 1
  rw [List.getElem_reverse]
  congr 1
theorem from_nil (s : ByteArray) (i : Nat) (h : s.size ≤ i) : from_ s i = [] := by
  unfold from_
  apply List.drop_eq_nil_of_le
  rw [List.length_reverse, ← Lib.size_eq]; exact h
theorem from_zero (s : ByteArray) : lsb (from_ s 0) = val s.data.toList := by
  unfold from_; rw [List.drop_zero, lsb_reverse]
theorem plusL_len : ∀ (x y : List UInt8) (c : Nat), (plusL x y c).length ≤ x.length + y.length + 1
  | [], [], c => by unfold plusL; split <;> simp
  | a :: x, [], c => by unfold plusL; have := plusL_len x [] ((c + dv a) / 10); simp at *; omega
  | [], b :: y, c => by unfold plusL; have := plusL_len [] y ((c + dv b) / 10); simp at *; omega
  | a :: x, b :: y, c => by unfold plusL; have := plusL_len x y ((c + dv a + dv b) / 10); simp at *; omega
theorem minusL_len : ∀ (x y : List UInt8) (c : Nat), (minusL x y c).length ≤ x.length
  | [], _, c => by simp [minusL]
  | a :: x, [], c => by
    unfold minusL
    have := minusL_len x [] 1
    have := minusL_len x [] 0
    split <;> simp <;> omega
  | a :: x, b :: y, c => by
    unfold minusL
    have := minusL_len x y 1
    have := minusL_len x y 0
    split <;> simp <;> omega
theorem textN_len (l : List Nat) : (textN l).length = l.length := by simp [textN]
theorem from_len (s : ByteArray) : (from_ s 0).length = s.size := by
  unfold from_
  rw [List.drop_zero, List.length_reverse, ← Lib.size_eq]
theorem mx_le (a b : Nat) (i : Int) : i ≤ mx (a : Int) (b : Int) ↔ i ≤ a ∨ i ≤ b := by unfold mx; split <;> omega
theorem dgt (n : Nat) (h : n ≤ 40) : (wrap64 (48 + Int.tmod (n : Int) 10)) % 256 = 48 + ((n % 10 : Nat) : Int) := by
  rw [show Int.tmod (n : Int) 10 = ((n % 10 : Nat) : Int) from rfl, w64 (by omega) (by omega)]; omega
theorem car (n : Nat) (h : n ≤ 40) : wrap64 (Int.tdiv (n : Int) 10) = ((n / 10 : Nat) : Int) := by
  rw [show Int.tdiv (n : Int) 10 = ((n / 10 : Nat) : Int) from rfl, w64 (by omega) (by omega)]
theorem sum2 (c a : Nat) (h : c ≤ 1) (h2 : a < 10) : wrap64 ((c : Int) + (a : Int)) = ((c + a : Nat) : Int) := by rw [w64 (by omega) (by omega)]; omega
theorem sum3 (c a b : Nat) (h : c ≤ 1) (h2 : a < 10) (h3 : b < 10) : wrap64 (((c + a : Nat) : Int) + (b : Int)) = ((c + a + b : Nat) : Int) := by rw [w64 (by omega) (by omega)]; omega
theorem ofI_snoc (out : List Nat) (m : Nat) : ofI out ++ [48 + (m : Int)] = ofI (out ++ [m]) := by simp [ofI]
theorem ofI_len (out : List Nat) : (ofI out).length = out.length := by simp [ofI]
theorem plus_go (x y : ByteArray) (hx : x.data.toList.all isDig = true) (hy : y.data.toList.all isDig = true) (sx : x.size ≤ 1000000000) (sy : y.size ≤ 1000000000) :
    ∀ (d k i c : Nat) (out : List Nat), x.size + y.size + 5 + d < k → x.size + y.size < i + d → i ≤ x.size + y.size → c ≤ 1 → out.length = i → (∀ d ∈ out, d < 10) →
      decimal_plus.l0 k x y (ofI out) (c : Int) ((i : Int) + 1) = some ⟨(textN (out ++ plusL (from_ x i) (from_ y i) c)).toArray⟩ := by
  have hmx : ∀ (i : Nat), ((i : Int) + 1 ≤ mx (x.size : Int) (y.size : Int)) ↔ i < x.size ∨ i < y.size := fun i => by rw [mx_le]; omega
  intro d
  induction d with
  | zero => intro k i c out hk hd hi; omega
  | succ d ih =>
    intro k i c out hk hd hi hc hol hol10
    obtain ⟨k, rfl⟩ : ∃ m, k = m + 1 := ⟨k - 1, by omega⟩
    have hlen : (ofI out).length = i := by rw [ofI_len, hol]
    have i2 : wrap64 ((i : Int) + 1 + 1) = ((i + 1 : Nat) : Int) + 1 := by rw [w64 (by omega) (by omega)]; omega
    have more : ∀ m : Nat, m < 10 → ∀ d ∈ out ++ [m], d < 10 := by
      intro m hm d hd
      rcases List.mem_append.1 hd with h | h
      · exact hol10 d h
      · simp at h; omega
    have rec_ : ∀ n : Nat, i < x.size + y.size → n < 30 →
        decimal_plus.l0 k x y (ofI out ++ [48 + ((n % 10 : Nat) : Int)]) ((n / 10 : Nat) : Int) (((i + 1 : Nat) : Int) + 1) = some ⟨(textN (out ++ n % 10 :: plusL (from_ x (i + 1)) (from_ y (i + 1)) (n / 10))).toArray⟩ ∨ 20 ≤ n := by
      intro n hi2 hn
      by_cases h20 : n < 20
      · left
        rw [ofI_snoc, List.append_cons out (n % 10) (plusL _ _ _)]
        exact ih k (i + 1) (n / 10) (out ++ [n % 10]) (by omega) (by omega) (by omega) (by omega) (by simp [hol]) (more _ (by omega))
      · right; omega
    have hroom : (ofI out).length < 140737488355328 := by rw [hlen]; omega
    simp only [decimal_plus.l0]
    by_cases hx' : i < x.size
    · obtain ⟨hn, e⟩ := from_cons x i hx'
      have hdx := dv_lt _ (List.all_eq_true.1 hx _ (List.getElem_mem hn))
      have ix : wrap64 ((x.size : Int) - ((i : Int) + 1)) = ((x.size - 1 - i : Nat) : Int) := by rw [w64 (by omega) (by omega)]; omega
      rw [if_pos ((hmx i).2 (.inl hx')), if_pos (by omega), ix, if_pos (by omega), if_pos (by omega), bt_dig x hx _ hn, e]
      generalize x.data.toList[x.size - 1 - i] = ca at *
      by_cases hy' : i < y.size
      · obtain ⟨hn2, e2⟩ := from_cons y i hy'
        have hdy := dv_lt _ (List.all_eq_true.1 hy _ (List.getElem_mem hn2))
        have iy : wrap64 ((y.size : Int) - ((i : Int) + 1)) = ((y.size - 1 - i : Nat) : Int) := by rw [w64 (by omega) (by omega)]; omega
        rw [if_pos (by omega), iy, if_pos (by omega), if_pos (by omega), if_pos hroom, bt_dig y hy _ hn2, e2, sum2 _ _ hc hdx, sum3 _ _ _ hc hdx hdy, dgt _ (by omega), car _ (by omega), i2]
        generalize y.data.toList[y.size - 1 - i] = cb at *
        unfold plusL
        exact (rec_ (c + dv ca + dv cb) (by omega) (by omega)).resolve_right (by omega)
      · rw [if_neg (by omega), if_pos hroom, from_nil y i (by omega), sum2 _ _ hc hdx, dgt _ (by omega), car _ (by omega), i2]
        have := (rec_ (c + dv ca) (by omega) (by omega)).resolve_right (by omega)
        rw [from_nil y (i + 1) (by omega)] at this
        unfold plusL
        exact this
    · rw [from_nil x i (by omega)]
      by_cases hy' : i < y.size
      · obtain ⟨hn2, e2⟩ := from_cons y i hy'
        have hdy := dv_lt _ (List.all_eq_true.1 hy _ (List.getElem_mem hn2))
        have iy : wrap64 ((y.size : Int) - ((i : Int) + 1)) = ((y.size - 1 - i : Nat) : Int) := by rw [w64 (by omega) (by omega)]; omega
        rw [if_pos ((hmx i).2 (.inr hy')), if_neg (by omega), if_pos (by omega), iy, if_pos (by omega), if_pos (by omega), if_pos hroom, bt_dig y hy _ hn2, e2, sum2 _ _ hc hdy, dgt _ (by omega), car _ (by omega), i2]
        generalize y.data.toList[y.size - 1 - i] = cb at *
        have := (rec_ (c + dv cb) (by omega) (by omega)).resolve_right (by omega)
        rw [from_nil x (i + 1) (by omega)] at this
        unfold plusL
        exact this
      · rw [if_neg (fun h => by have := (hmx i).1 h; omega), from_nil y i (by omega)]
        by_cases hc0 : (c : Int) > 0
        · rw [if_pos hc0, if_pos hroom, rev_f k _ (by rw [List.length_append, hlen]; simp; omega) (by rw [List.length_append, hlen]; simp; omega)]
          have hc1 : c > 0 := by omega
          have e1 : ofI out ++ [49] = ofI (out ++ [1]) := by simp [ofI]
          simp only [Option.bind_some]
          rw [e1, strOf_rev _ (more 1 (by omega))]
          unfold plusL
          rw [if_pos hc1]
        · rw [if_neg hc0, rev_f k _ (by rw [hlen]; omega) (by rw [hlen]; omega)]
          have hc1 : ¬ c > 0 := by omega
          simp only [Option.bind_some]
          rw [strOf_rev _ hol10]
          unfold plusL
          rw [if_neg hc1, List.append_nil]
theorem plus_f (x y : ByteArray) (hx : x.data.toList.all isDig = true) (hy : y.data.toList.all isDig = true) (sx : x.size ≤ 1000000000) (sy : y.size ≤ 1000000000) (k : Nat) (hk : 2 * (x.size + y.size) + 10 < k) :
    ∃ l : List UInt8, decimal_plus.f k x y = some ⟨l.toArray⟩ ∧ l.all isDig = true ∧ val l = val x.data.toList + val y.data.toList ∧ l.length ≤ x.size + y.size + 1 := by
  have h := plus_go x y hx hy sx sy (x.size + y.size + 1) k 0 0 [] (by omega) (by omega) (by omega) (by omega) rfl (by simp)
  refine ⟨_, h, textN_dig _ (by simpa using plusL_lt _ _ _), ?_, by rw [textN_len]; have := plusL_len (from_ x 0) (from_ y 0) 0; rw [from_len, from_len] at this; simpa using this⟩
  rw [List.nil_append, textN_val _ (plusL_lt _ _ _), plusL_val _ _ _ (by omega) (from_all x hx 0) (from_all y hy 0), from_zero, from_zero]; omega
theorem minus_go (x y : ByteArray) (hx : x.data.toList.all isDig = true) (hy : y.data.toList.all isDig = true) (sx : x.size ≤ 1000000000) (sy : y.size ≤ 1000000000) :
    ∀ (d k i c : Nat) (out : List Nat), x.size + 5 + d < k → x.size < i + d → i ≤ x.size → c ≤ 1 → out.length = i → (∀ d ∈ out, d < 10) →
      decimal_minus.l0 k x y (ofI out) (c : Int) ((i : Int) + 1) = some ⟨(textN (out ++ minusL (from_ x i) (from_ y i) c)).toArray⟩ := by
  intro d
  induction d with
  | zero => intro k i c out hk hd hi; omega
  | succ d ih =>
    intro k i c out hk hd hi hc hol hol10
    obtain ⟨k, rfl⟩ : ∃ m, k = m + 1 := ⟨k - 1, by omega⟩
    have hlen : (ofI out).length = i := by rw [ofI_len, hol]
    have i2 : wrap64 ((i : Int) + 1 + 1) = ((i + 1 : Nat) : Int) + 1 := by rw [w64 (by omega) (by omega)]; omega
    have more : ∀ m : Nat, m < 10 → ∀ d ∈ out ++ [m], d < 10 := by
      intro m hm d hd
      rcases List.mem_append.1 hd with h | h
      · exact hol10 d h
      · simp at h; omega
    have hroom : (ofI out).length < 140737488355328 := by rw [hlen]; omega
    have rec_ : ∀ (m c' : Nat), i < x.size → m < 10 → c' ≤ 1 →
        decimal_minus.l0 k x y (ofI out ++ [48 + (m : Int)]) (c' : Int) (((i + 1 : Nat) : Int) + 1) = some ⟨(textN (out ++ m :: minusL (from_ x (i + 1)) (from_ y (i + 1)) c')).toArray⟩ := by
      intro m c' hi2 hm hc'
      rw [ofI_snoc, List.append_cons out m (minusL _ _ _)]
      exact ih k (i + 1) c' (out ++ [m]) (by omega) (by omega) (by omega) (by omega) (by simp [hol]) (more _ (by omega))
    simp only [decimal_minus.l0]
    by_cases hx' : i < x.size
    · obtain ⟨hn, e⟩ := from_cons x i hx'
      have hdx := dv_lt _ (List.all_eq_true.1 hx _ (List.getElem_mem hn))
      have ix : wrap64 ((x.size : Int) - ((i : Int) + 1)) = ((x.size - 1 - i : Nat) : Int) := by rw [w64 (by omega) (by omega)]; omega
      rw [if_pos (by omega), ix, if_pos (by omega), if_pos (by omega), bt_dig x hx _ hn, e]
      generalize x.data.toList[x.size - 1 - i] = ca at *
      have f1 : wrap64 ((dv ca : Int) - (c : Int)) = (dv ca : Int) - (c : Int) := w64 (by omega) (by omega)
      by_cases hy' : i < y.size
      · obtain ⟨hn2, e2⟩ := from_cons y i hy'
        have hdy := dv_lt _ (List.all_eq_true.1 hy _ (List.getElem_mem hn2))
        have iy : wrap64 ((y.size : Int) - ((i : Int) + 1)) = ((y.size - 1 - i : Nat) : Int) := by rw [w64 (by omega) (by omega)]; omega
        rw [if_pos (by omega), iy, if_pos (by omega), if_pos (by omega), bt_dig y hy _ hn2, e2, f1]
        generalize y.data.toList[y.size - 1 - i] = cb at *
        rw [w64 (x := (dv ca : Int) - (c : Int) - (dv cb : Int)) (by omega) (by omega)]
        unfold minusL
        by_cases hlt : dv ca < c + dv cb
        · rw [if_pos (by omega), if_pos hroom, if_pos hlt, i2]
          have z := rec_ (dv ca + 10 - c - dv cb) 1 hx' (by omega) (by omega)
          rw [w64 (x := (dv ca : Int) - (c : Int) - (dv cb : Int) + 10) (by omega) (by omega), w64 (by omega) (by omega)]
          rw [show (48 + ((dv ca : Int) - (c : Int) - (dv cb : Int) + 10)) % 256 = 48 + ((dv ca + 10 - c - dv cb : Nat) : Int) by omega]
          exact z
        · rw [if_neg (by omega), if_pos hroom, if_neg hlt, i2]
          have z := rec_ (dv ca - c - dv cb) 0 hx' (by omega) (by omega)
          rw [w64 (by omega) (by omega)]
          rw [show (48 + ((dv ca : Int) - (c : Int) - (dv cb : Int))) % 256 = 48 + ((dv ca - c - dv cb : Nat) : Int) by omega]
          exact z
      · have ey := from_nil y (i + 1) (by omega)
        rw [ey] at rec_
        rw [if_neg (by omega), from_nil y i (by omega), f1]
        unfold minusL
        by_cases hlt : dv ca < c
        · rw [if_pos (by omega), if_pos hroom, if_pos hlt, i2]
          have z := rec_ (dv ca + 10 - c) 1 hx' (by omega) (by omega)
          rw [w64 (x := (dv ca : Int) - (c : Int) + 10) (by omega) (by omega), w64 (by omega) (by omega)]
          rw [show (48 + ((dv ca : Int) - (c : Int) + 10)) % 256 = 48 + ((dv ca + 10 - c : Nat) : Int) by omega]
          exact z
        · rw [if_neg (by omega), if_pos hroom, if_neg hlt, i2]
          have z := rec_ (dv ca - c) 0 hx' (by omega) (by omega)
          rw [w64 (by omega) (by omega)]
          rw [show (48 + ((dv ca : Int) - (c : Int))) % 256 = 48 + ((dv ca - c : Nat) : Int) by omega]
          exact z
    · rw [if_neg (by omega), from_nil x i (by omega), rev_f k _ (by rw [hlen]; omega) (by rw [hlen]; omega)]
      simp only [Option.bind_some]
      rw [strOf_rev _ hol10]
      unfold minusL
      rw [List.append_nil]
theorem minus_f (x y : ByteArray) (hx : x.data.toList.all isDig = true) (hy : y.data.toList.all isDig = true) (sx : x.size ≤ 1000000000) (sy : y.size ≤ 1000000000) (hle : val y.data.toList ≤ val x.data.toList) (k : Nat) (hk : 2 * x.size + 10 < k) :
    ∃ l : List UInt8, decimal_minus.f k x y = some ⟨l.toArray⟩ ∧ l.all isDig = true ∧ val l = val x.data.toList - val y.data.toList ∧ l.length ≤ x.size := by
  have h := minus_go x y hx hy sx sy (x.size + 1) k 0 0 [] (by omega) (by omega) (by omega) (by omega) rfl (by simp)
  refine ⟨_, h, textN_dig _ (by simpa using minusL_lt _ _ _ (from_all x hx 0)), ?_, by rw [textN_len]; have := minusL_len (from_ x 0) (from_ y 0) 0; rw [from_len] at this; simpa using this⟩
  have := minusL_val (from_ x 0) (from_ y 0) 0 (by omega) (from_all x hx 0) (from_all y hy 0) (by rw [from_zero, from_zero]; omega)
  rw [from_zero, from_zero] at this
  rw [List.nil_append, textN_val _ (minusL_lt _ _ _ (from_all x hx 0))]; omega
def S (n : Int) : ByteArray := ⟨(Lib.itoa n).toArray⟩
theorem S_list (n : Int) : (S n).data.toList = Lib.itoa n := rfl
theorem S_size (n : Int) : (S n).size = (Lib.itoa n).length := by rw [Lib.size_eq]; rfl
theorem of_list (s t : ByteArray) (h : s.data.toList = t.data.toList) : s = t := by rw [← mk_eta s, ← mk_eta t, h]
theorem S_inj {m n : Int} (h : S m = S n) : m = n := by
  rw [← (itoa_right m).2, ← (itoa_right n).2, ← S_list, ← S_list, h]
theorem toList_inj (s t : ByteArray) : s.toList = t.toList ↔ s = t := by
  constructor
  · intro h; rw [Lib.toList_data, Lib.toList_data] at h; exact of_list s t h
  · rintro rfl; rfl
theorem cut_f (a : ByteArray) : strings_CutPrefix.f a (⟨#[45]⟩ : ByteArray) = some (⟨(cutMinus a.data.toList).1.toArray⟩, (cutMinus a.data.toList).2) := by
  have h1 : (⟨#[45]⟩ : ByteArray).size = 1 := rfl
  have h2 : (⟨#[45]⟩ : ByteArray).toList = [45] := by rw [Lib.toList_data]
  unfold strings_CutPrefix.f stringslite_CutPrefix.f stringslite_HasPrefix.f
  rw [h1, h2]
  have hz := Lib.size_eq a
  cases hl : a.data.toList with
  | nil =>
    rw [hl] at hz
    have h0 : a.size = 0 := hz
    rw [h0, if_neg (by omega)]
    simp only [Option.bind_some, Bool.false_eq_true, if_false, cutMinus]
    have : a = ⟨#[]⟩ := of_list _ _ (by rw [hl])
    rw [this]
  | cons c r =>
    rw [hl] at hz
    have hz' : a.size = r.length + 1 := hz
    rw [if_pos (by omega), if_pos (by omega), if_pos (by omega)]
    have e1 : (a.extract 0 ((1 : Nat) : Int).toNat).toList = [c] := by
      rw [Lib.toList_data, show (((1 : Nat) : Int).toNat) = 1 from rfl, Lib.extract_data, hl]; simp
    rw [e1]
    simp only [Option.bind_some]
    by_cases hc : c = 45
    · subst hc
      have e2 : ([45] == [(45 : UInt8)]) = true := by decide
      rw [e2, if_pos rfl, if_pos (by omega), if_pos (by omega)]
      simp only [Option.bind_some, cutMinus]
      congr 2
      apply of_list
      rw [show (((1 : Nat) : Int).toNat) = 1 from rfl, Lib.extract_data, hl]
      simp
      rw [List.take_of_length_le (by omega)]
    · have e2 : ([c] == [(45 : UInt8)]) = false := by simp [hc]
      rw [e2, if_neg (by simp)]
      simp only [Option.bind_some]
      have : cutMinus (c :: r) = (c :: r, false) := by
        unfold cutMinus
        split
        · rename_i h; injection h with h; exact absurd h hc
        · rfl
      rw [this]
      congr 2
      try exact of_list _ _ hl
theorem of_f (s : ByteArray) (neg : Bool) (h : s.data.toList.all isDig = true) (hs : s.size ≤ 1000000000) : decimal_Of.f s neg = some (S (if neg = true then -((val s.data.toList : Nat) : Int) else ((val s.data.toList : Nat) : Int))) := by
  unfold decimal_Of.f strings_TrimLeft.f
  rw [show (⟨#[48]⟩ : ByteArray).data.toList = [48] from rfl]
  simp only []
  rw [if_pos (by decide), strip _ h]
  simp only [Option.bind_some]
  by_cases hz : val s.data.toList = 0
  · rw [if_pos hz, hz]
    rw [if_pos (by rw [Lib.toList_data])]
    congr 1
    apply of_list
    rw [S_list]
    cases neg <;> (show [48] = Lib.itoa 0; unfold Lib.itoa; rw [if_neg (by omega)]; exact dec_zero.symm)
  · rw [if_neg hz]
    rw [if_neg (by rw [Lib.toList_data]; exact dec_ne _)]
    cases neg with
    | true =>
      have hlen : (Lib.decDigits (val s.data.toList)).length ≤ s.data.toList.length := by
        have := strip _ h
        rw [if_neg hz] at this
        rw [← this]
        exact List.Sublist.length_le (List.dropWhile_sublist _)
      rw [if_pos rfl, if_pos rfl, if_pos (by rw [Lib.size_mk]; rw [Lib.size_eq] at hs; omega)]
      congr 1
      apply of_list
      rw [S_list, Lib.itoa_neg _ (by omega)]
      simp
    | false =>
      rw [if_neg (by simp), if_neg (by simp)]
      refine congrArg some (of_list _ _ ?_)
      rw [S_list, Lib.itoa_nonneg]
theorem compare_f (m n : Nat) (hm : (Lib.decDigits m).length ≤ 1000000000) (hn : (Lib.decDigits n).length ≤ 1000000000) :
    ∃ t, decimal_compare.f ⟨(Lib.decDigits m).toArray⟩ ⟨(Lib.decDigits n).toArray⟩ = some t ∧ (t < 0 ↔ m < n) ∧ (t = 0 ↔ m = n) := by
  unfold decimal_compare.f
  rw [Lib.size_mk, Lib.size_mk]
  by_cases he : (Lib.decDigits m).length = (Lib.decDigits n).length
  · rw [if_pos (by omega)]
    unfold strings_Compare.f
    refine ⟨_, rfl, ?_⟩
    have := compare_val _ _ he (dec_dig m) (dec_dig n)
    rw [dec_val, dec_val] at this
    exact this
  · rw [if_neg (by omega)]
    refine ⟨_, rfl, ?_⟩
    rw [w64 (by omega) (by omega)]
    rcases Nat.lt_or_gt_of_ne he with h | h
    · have := dec_len_lt h; constructor <;> constructor <;> intro _ <;> omega
    · have := dec_len_lt h; constructor <;> constructor <;> intro _ <;> omega
theorem dec_len_le (n m : Nat) (h : n < 10 ^ m) (hm : 1 ≤ m) : (Lib.decDigits n).length ≤ m := by
  by_cases hn : n = 0
  · subst hn; rw [dec_zero]; exact hm
  · have hh := dec_head n (by omega)
    have hd := dec_dig n
    have hv := dec_val n
    cases hx : Lib.decDigits n with
    | nil => exact absurd hx (dec_ne n)
    | cons a r =>
      rw [hx] at hh hd hv
      simp only [List.all_cons, Bool.and_eq_true] at hd
      rw [val_cons] at hv
      have ha : dv a ≠ 0 := fun e => hh (by rw [(dv_zero a hd.1).1 e]; rfl)
      have h1 : 1 * 10 ^ r.length ≤ dv a * 10 ^ r.length := Nat.mul_le_mul_right _ (by omega)
      by_cases hle : r.length + 1 ≤ m
      · exact hle
      · have : 10 ^ m ≤ 10 ^ r.length := Nat.pow_le_pow_right (by omega) (by omega)
        omega
def Fits (n : Int) (m : Nat) : Prop := n.natAbs < 10 ^ m
theorem itoa_len (n : Int) (m : Nat) (h : Fits n m) (hm : 1 ≤ m) : (Lib.itoa n).length ≤ m + 1 := by
  unfold Fits at h
  by_cases h0 : n < 0
  · obtain ⟨k, rfl⟩ : ∃ k : Nat, n = -(k : Int) := ⟨n.natAbs, by omega⟩
    rw [Lib.itoa_neg _ (by omega), List.length_cons]
    have := dec_len_le k m (by omega) hm
    omega
  · obtain ⟨k, rfl⟩ : ∃ k : Nat, n = (k : Int) := ⟨n.toNat, by omega⟩
    rw [Lib.itoa_nonneg]
    have := dec_len_le k m (by omega) hm
    omega
theorem Fits.add {a b : Int} {m : Nat} (ha : Fits a m) (hb : Fits b m) : Fits (a + b) (m + 1) := by
  unfold Fits at *
  rw [Nat.pow_succ]; omega
theorem Fits.mono {a : Int} {m n : Nat} (ha : Fits a m) (h : m ≤ n) : Fits a n := by
  unfold Fits at *
  have : 10 ^ m ≤ 10 ^ n := Nat.pow_le_pow_right (by omega) h
  omega
theorem cut_len (l : List UInt8) : (cutMinus l).1.length ≤ l.length := by
  unfold cutMinus; split <;> simp
theorem fits_of (l : List UInt8) (h : rightL l = true) : Fits (toI l) l.length := by
  unfold Fits
  have hc := cut_len l
  have hd : (cutMinus l).1.all isDig = true := by
    simp only [rightL, digitsL, Bool.and_eq_true] at h; exact h.1.2
  have hv := val_lt_pow _ hd
  have hp : 10 ^ (cutMinus l).1.length ≤ 10 ^ l.length := Nat.pow_le_pow_right (by omega) hc
  unfold toI
  split <;> omega
theorem right_dig (l : List UInt8) (h : rightL l = true) : (cutMinus l).1.all isDig = true := by
  simp only [rightL, digitsL, Bool.and_eq_true] at h; exact h.1.2
theorem add_f (a b : ByteArray) (ha : rightL a.data.toList = true) (hb : rightL b.data.toList = true) (sa : a.size ≤ 1000000) (sb : b.size ≤ 1000000) (k : Nat) (hk : 2 * (a.size + b.size) + 20 < k) :
    decimal_Add.f k a b = some (S (toI a.data.toList + toI b.data.toList), true) := by
  obtain ⟨k, rfl⟩ : ∃ m, k = m + 1 := ⟨k - 1, by omega⟩
  unfold decimal_Add.f decimal_Right.f
  rw [ha, hb]
  simp only [Option.bind_some, if_true, Bool.not_true]
  simp only [decimal_Add.j0]
  rw [if_neg (by simp), cut_f a, cut_f b]
  simp only [Option.bind_some]
  obtain ⟨ea, na⟩ := rightL_spec _ ha
  obtain ⟨eb, nb⟩ := rightL_spec _ hb
  have da := right_dig _ ha
  have db := right_dig _ hb
  have la := cut_len a.data.toList
  have lb := cut_len b.data.toList
  rw [← Lib.size_eq] at la lb
  unfold toI
  generalize (cutMinus a.data.toList).1 = x at *
  generalize (cutMinus b.data.toList).1 = y at *
  generalize (cutMinus a.data.toList).2 = p at *
  generalize (cutMinus b.data.toList).2 = q at *
  have sx : (⟨x.toArray⟩ : ByteArray).size = x.length := Lib.size_mk x
  have sy : (⟨y.toArray⟩ : ByteArray).size = y.length := Lib.size_mk y
  by_cases hpq : p = q
  · subst hpq
    rw [if_pos (by simp)]
    obtain ⟨l, hl, hd, hv, hlen⟩ := plus_f ⟨x.toArray⟩ ⟨y.toArray⟩ da db (by omega) (by omega) k (by omega)
    have hv' : val l = val x + val y := hv
    have hsz : l.length ≤ 1000000000 := by omega
    rw [hl]
    simp only [Option.bind_some]
    rw [of_f ⟨l.toArray⟩ p hd (by rw [Lib.size_mk]; exact hsz)]
    simp only [Option.bind_some]
    congr 3
    show (if p = true then -((val l : Nat) : Int) else ((val l : Nat) : Int)) = _
    rw [hv']
    cases p <;> simp <;> omega
  · rw [if_neg (by simpa using hpq)]
    obtain ⟨t, ht, h1, h2⟩ := compare_f (val x) (val y) (by rw [← ea]; omega) (by rw [← eb]; omega)
    rw [← ea, ← eb] at ht
    rw [ht]
    simp only [Option.bind_some]
    by_cases hge : t ≥ 0
    · rw [if_pos hge]
      have hle : val y ≤ val x := by omega
      obtain ⟨l, hl, hd, hv, hlen⟩ := minus_f ⟨x.toArray⟩ ⟨y.toArray⟩ da db (by omega) (by omega) hle k (by omega)
      have hv' : val l = val x - val y := hv
      have hsz : l.length ≤ 1000000000 := by omega
      rw [hl]
      simp only [Option.bind_some]
      rw [of_f ⟨l.toArray⟩ p hd (by rw [Lib.size_mk]; exact hsz)]
      simp only [Option.bind_some]
      congr 3
      show (if p = true then -((val l : Nat) : Int) else ((val l : Nat) : Int)) = _
      rw [hv']
      cases p <;> cases q <;> simp at * <;> omega
    · rw [if_neg hge]
      have hle : val x ≤ val y := by omega
      obtain ⟨l, hl, hd, hv, hlen⟩ := minus_f ⟨y.toArray⟩ ⟨x.toArray⟩ db da (by omega) (by omega) hle k (by omega)
      have hv' : val l = val y - val x := hv
      have hsz : l.length ≤ 1000000000 := by omega
      rw [hl]
      simp only [Option.bind_some]
      rw [of_f ⟨l.toArray⟩ q hd (by rw [Lib.size_mk]; exact hsz)]
      simp only [Option.bind_some]
      congr 3
      show (if q = true then -((val l : Nat) : Int) else ((val l : Nat) : Int)) = _
      rw [hv']
      cases p <;> cases q <;> simp at * <;> omega
theorem S_right (n : Int) : rightL (S n).data.toList = true := (itoa_right n).1
theorem S_toI (n : Int) : toI (S n).data.toList = n := (itoa_right n).2
theorem add_S (m n : Int) (sm : (S m).size ≤ 1000000) (sn : (S n).size ≤ 1000000) (k : Nat) (hk : 2 * ((S m).size + (S n).size) + 20 < k) : decimal_Add.f k (S m) (S n) = some (S (m + n), true) := by
  rw [add_f _ _ (S_right m) (S_right n) sm sn k hk, S_toI, S_toI]
theorem S_size_le (n : Int) (m : Nat) (h : Fits n m) (hm : 1 ≤ m) : (S n).size ≤ m + 1 := by rw [S_size]; exact itoa_len n m h hm
end Go.Proofs.YthimiidnbnlemaaDoorD
