/- CONTRACTS of the functions of package colour that the print does not take (strings.Map, strings.Fields), over the shelf's contracts; what the listed variables say of a world ('LaidW'); '==' of arrays. -/
import Derived.Test.YthonpnaccjajcaaGreatDoorColourWhereShelf
import Derived.Test.YthonpnaccjajcaaGreatDoorColourWhereWords
import Derived.ChangeKeysEq
import Derived.WalkKit
import Derived.WalkMore
import Derived.Lib.LaidU8T
import Derived.Lib.MapLaws
import Derived.Lib.TrimAscii
import Derived.Lib.Hide
import Derived.Lib.ConvBytes
import Derived.Laws.IdiomStrings
set_option linter.unusedVariables false
set_option linter.unusedSimpArgs false
namespace Go.Proofs.YthonpnaccjajcaaGreatDoorX
open Go.RowKit Go.Proofs.YthonpnaccjajcaaGreatDoorW.PrintWords Go.Shelf
theorem bne_nil_ {α : Type} [BEq α] (l : List α) : (l != []) = !l.isEmpty := by cases l <;> rfl
section
variable {P : Program} {d c : Nat} {e : TypeId} {xs ys : Array Value} {i : Nat} {is : List Nat} {a b : Value} {r s : Bool} {w : World}
theorem eqi_cons (ha : (part e xs (i * c)).run P w = .ok a w) (hb : (part e ys (i * c)).run P w = .ok b w) (he : (Op.equalIn d e a b).run P w = .ok r w) (hr : (Op.eqItems d e c xs ys is).run P w = .ok s w) : (Op.eqItems d e c xs ys (i :: is)).run P w = .ok (r && (s)) w := by
  simp only [Op.eqItems, Sem.run_bind, ha, hb, he, Result.andThen_ok]
  cases r
  · simp
  · simpa using hr
theorem eqi_last (ha : (part e xs (i * c)).run P w = .ok a w) (hb : (part e ys (i * c)).run P w = .ok b w) (he : (Op.equalIn d e a b).run P w = .ok r w) : (Op.eqItems d e c xs ys [i]).run P w = .ok r w := by
  have h := eqi_cons (is := []) (s := true) ha hb he (by simp [Op.eqItems])
  rwa [Bool.and_true] at h
end
structure LaidW (w : World) : Prop where
  one : True
  space : Lib.TabIs Tryz.prog w "strings.asciiSpace" .u8 Lib.asciiSpaceTab
  utf8 : Lib.Utf8Tabs 2 3 w
theorem var_below {n : String} {cs : Array Value} {w w' : World} (hv : w.var? Tryz.prog n = some cs) (hb : Below w.heap.size w w') : w'.var? Tryz.prog n = some cs := by
  unfold World.var? at hv ⊢
  cases hg : Tryz.prog.globalNamed n with
  | none => rw [hg] at hv; simp at hv
  | some g =>
    rw [hg] at hv
    simp only [Option.bind_some] at hv ⊢
    by_cases hlt : g < w.heap.size
    · rw [hb.block g hlt]; exact hv
    · have : w.heap[g]? = none := by simp; omega
      rw [this] at hv; simp at hv
theorem LaidW.below {w w' : World} (h : LaidW w) (hb : Below w.heap.size w w') : LaidW w' where
  one := trivial
  space := var_below h.space hb
  utf8 := Utf8Tabs_below h.utf8 hb
theorem LaidW.drewN {w : World} (h : LaidW w) (n : Nat) : LaidW (w.drewN n) := h.below (Drawn0.below ⟨⟨n, rfl⟩⟩)
theorem LaidW.drew {w : World} (h : LaidW w) : LaidW w.drew := h.drewN 1
def lowF (r : Int) : Int := if 65 ≤ r ∧ r ≤ 90 then r + 32 else r
theorem lower1_any (x : Nat) (hx : x ≤ 1114111) (w : World) : Calls Tryz.prog 58 (#[encR x] ++ #[]) w fun e w' => e = .returned (.int .i32 (lowF x)) ∧ ∃ q, w' = w.drewN q := by
  show Calls Tryz.prog 58 #[.int .i32 (x : Int)] w _
  by_cases h1 : (65 : Int) ≤ (x : Int)
  · by_cases h2 : (x : Int) ≤ 90
    · have e : lowF x = (x : Int) + 32 := by unfold lowF; rw [if_pos ⟨h1, h2⟩]
      rw [e]
      clear e
      go_enter Tryz.func58, Tryz.ntmps58
      go_wp2
      go_ret
      exact ⟨by first | rfl | (simp; omega), 0, rfl⟩
    · have e : lowF x = (x : Int) := by unfold lowF; rw [if_neg (by omega)]
      rw [e]
      clear e
      go_enter Tryz.func58, Tryz.ntmps58
      go_wp2
      go_ret
      exact ⟨rfl, 0, rfl⟩
  · have e : lowF x = (x : Int) := by unfold lowF; rw [if_neg (by omega)]
    rw [e]
    clear e
    go_enter Tryz.func58, Tryz.ntmps58
    go_wp2
    go_ret
    exact ⟨rfl, 0, rfl⟩
theorem lower1_pays (w : World) : MapAtRunes Tryz.prog 58 #[] lowF w := fun W x hx _ => lower1_any x hx W
theorem lower1_enters : ∀ args w, (callFunc 58 args).run Tryz.prog w = .ok (.enter 58 args) w := enters_of Tryz.func58 (by kernel_rfl) rfl
theorem lowF_range (x : Nat) (hx : x ≤ 1114111) : 0 ≤ lowF x ∧ lowF x ≤ 2147483647 := by unfold lowF; split <;> omega
def colour_lower.f (a0 : ByteArray) : Option ByteArray := if a0.size < 35184372088832 then some ⟨(Lib.mapD lowF a0.data.toList).toArray⟩ else none
theorem colour_lower.calls (a0 r : ByteArray) (w : World) (hL : LaidW w) (h : colour_lower.f a0 = some r) :
    Calls Tryz.prog 28 #[.string a0] w fun e w' => e = .returned (.string r) ∧ Below w.heap.size w w' := by
  unfold colour_lower.f at h
  split at h
  · rename_i hs
    obtain rfl := Option.some.inj h
    have hc := Tryz.strings_Map_runes _ #[] lower1_enters lowF a0 w hs (lower1_pays w) lowF_range hL.utf8
    generalize (⟨(Lib.mapD lowF a0.data.toList).toArray⟩ : ByteArray) = r at hc ⊢
    clear h hs
    go_enter Tryz.func28, Tryz.ntmps28
    go_wp2_with (go_at_call 57; refine hc.mono ?_; rintro e w' ⟨rfl, hb⟩)
    go_ret
    exact ⟨rfl, by assumption⟩
  · exact absurd h (by simp)
def lowB (c : UInt8) : UInt8 := if 65 ≤ c ∧ c ≤ 90 then c + 32 else c
def lowS (t : ByteArray) : ByteArray := ⟨(Lib.mapD lowF t.data.toList).toArray⟩
theorem lowB_nat (c : UInt8) : ((lowB c).toNat : Int) = lowF c.toNat := by
  unfold lowB lowF
  simp only [UInt8.le_iff_toNat_le]
  have h65 : (65 : UInt8).toNat = 65 := rfl
  have h90 : (90 : UInt8).toNat = 90 := rfl
  rw [h65, h90]
  by_cases h : 65 ≤ c.toNat ∧ c.toNat ≤ 90
  · rw [if_pos h, if_pos (by omega), UInt8.toNat_add]
    have : (32 : UInt8).toNat = 32 := rfl
    rw [this]
    omega
  · rw [if_neg h, if_neg (by omega)]
theorem mapD_ascii : ∀ l : List UInt8, (∀ c ∈ l, c.toNat < 128) → Lib.mapD lowF l = l.map lowB
  | [], _ => rfl
  | c :: r, h => by
    have hc := h c (List.mem_cons_self ..)
    rw [Lib.mapD_step lowF (c :: r) (by simp), Lib.decodeL_ascii c r hc]
    dsimp only
    have e := lowB_nat c
    have hl : (lowB c).toNat < 128 := by
      have : lowF c.toNat < 128 := by unfold lowF; split <;> omega
      omega
    rw [← e, if_pos (by omega), List.drop_succ_cons, List.drop_zero, mapD_ascii r (fun d hd => h d (List.mem_cons_of_mem _ hd))]
    unfold Lib.encodeRune
    rw [Lib.encodeRuneZ_one (by omega) (by omega)]
    simp
def wordsL : List ByteArray := [
    ⟨#[97, 113, 117, 97]⟩,
    ⟨#[48, 48, 102, 102, 102, 102]⟩,
    ⟨#[97, 122, 117, 114, 101]⟩,
    ⟨#[102, 48, 102, 102, 102, 102]⟩,
    ⟨#[98, 101, 105, 103, 101]⟩,
    ⟨#[102, 53, 102, 53, 100, 99]⟩,
    ⟨#[98, 105, 115, 113, 117, 101]⟩,
    ⟨#[102, 102, 101, 52, 99, 52]⟩,
    ⟨#[98, 108, 97, 99, 107]⟩,
    ⟨#[48, 48, 48, 48, 48, 48]⟩,
    ⟨#[98, 108, 117, 101]⟩,
    ⟨#[48, 48, 48, 48, 102, 102]⟩,
    ⟨#[98, 114, 111, 119, 110]⟩,
    ⟨#[97, 53, 50, 97, 50, 97]⟩,
    ⟨#[99, 111, 114, 97, 108]⟩,
    ⟨#[102, 102, 55, 102, 53, 48]⟩,
    ⟨#[102, 117, 99, 104, 115, 105, 97]⟩,
    ⟨#[102, 102, 48, 48, 102, 102]⟩,
    ⟨#[103, 111, 108, 100]⟩,
    ⟨#[102, 102, 100, 55, 48, 48]⟩,
    ⟨#[103, 114, 97, 121]⟩,
    ⟨#[56, 48, 56, 48, 56, 48]⟩,
    ⟨#[103, 114, 101, 101, 110]⟩,
    ⟨#[48, 48, 56, 48, 48, 48]⟩,
    ⟨#[105, 110, 100, 105, 103, 111]⟩,
    ⟨#[52, 98, 48, 48, 56, 50]⟩,
    ⟨#[105, 118, 111, 114, 121]⟩,
    ⟨#[102, 102, 102, 102, 102, 48]⟩,
    ⟨#[107, 104, 97, 107, 105]⟩,
    ⟨#[102, 48, 101, 54, 56, 99]⟩,
    ⟨#[108, 105, 109, 101]⟩,
    ⟨#[48, 48, 102, 102, 48, 48]⟩,
    ⟨#[108, 105, 110, 101, 110]⟩,
    ⟨#[102, 97, 102, 48, 101, 54]⟩,
    ⟨#[109, 97, 114, 111, 111, 110]⟩,
    ⟨#[56, 48, 48, 48, 48, 48]⟩,
    ⟨#[110, 97, 118, 121]⟩,
    ⟨#[48, 48, 48, 48, 56, 48]⟩,
    ⟨#[111, 108, 105, 118, 101]⟩,
    ⟨#[56, 48, 56, 48, 48, 48]⟩,
    ⟨#[111, 114, 97, 110, 103, 101]⟩,
    ⟨#[102, 102, 97, 53, 48, 48]⟩,
    ⟨#[111, 114, 99, 104, 105, 100]⟩,
    ⟨#[100, 97, 55, 48, 100, 54]⟩,
    ⟨#[112, 101, 114, 117]⟩,
    ⟨#[99, 100, 56, 53, 51, 102]⟩,
    ⟨#[112, 105, 110, 107]⟩,
    ⟨#[102, 102, 99, 48, 99, 98]⟩,
    ⟨#[112, 108, 117, 109]⟩,
    ⟨#[100, 100, 97, 48, 100, 100]⟩,
    ⟨#[112, 117, 114, 112, 108, 101]⟩,
    ⟨#[56, 48, 48, 48, 56, 48]⟩,
    ⟨#[114, 101, 100]⟩,
    ⟨#[102, 102, 48, 48, 48, 48]⟩,
    ⟨#[115, 97, 108, 109, 111, 110]⟩,
    ⟨#[102, 97, 56, 48, 55, 50]⟩,
    ⟨#[115, 105, 101, 110, 110, 97]⟩,
    ⟨#[97, 48, 53, 50, 50, 100]⟩,
    ⟨#[115, 105, 108, 118, 101, 114]⟩,
    ⟨#[99, 48, 99, 48, 99, 48]⟩,
    ⟨#[115, 110, 111, 119]⟩,
    ⟨#[102, 102, 102, 97, 102, 97]⟩,
    ⟨#[116, 97, 110]⟩,
    ⟨#[100, 50, 98, 52, 56, 99]⟩,
    ⟨#[116, 101, 97, 108]⟩,
    ⟨#[48, 48, 56, 48, 56, 48]⟩,
    ⟨#[116, 111, 109, 97, 116, 111]⟩,
    ⟨#[102, 102, 54, 51, 52, 55]⟩,
    ⟨#[118, 105, 111, 108, 101, 116]⟩,
    ⟨#[101, 101, 56, 50, 101, 101]⟩,
    ⟨#[119, 104, 101, 97, 116]⟩,
    ⟨#[102, 53, 100, 101, 98, 51]⟩,
    ⟨#[119, 104, 105, 116, 101]⟩,
    ⟨#[102, 102, 102, 102, 102, 102]⟩,
    ⟨#[121, 101, 108, 108, 111, 119]⟩,
    ⟨#[102, 102, 102, 102, 48, 48]⟩]
theorem fields_words : Lib.fields [97, 113, 117, 97, 32, 48, 48, 102, 102, 102, 102, 32, 97, 122, 117, 114, 101, 32, 102, 48, 102, 102, 102, 102, 32, 98, 101, 105, 103, 101, 32, 102, 53, 102, 53, 100, 99, 32, 98, 105, 115, 113, 117, 101, 32, 102, 102, 101, 52, 99, 52, 32, 98, 108, 97, 99, 107, 32, 48, 48, 48, 48, 48, 48, 32, 98, 108, 117, 101, 32, 48, 48, 48, 48, 102, 102, 32, 98, 114, 111, 119, 110, 32, 97, 53, 50, 97, 50, 97, 32, 99, 111, 114, 97, 108, 32, 102, 102, 55, 102, 53, 48, 32, 102, 117, 99, 104, 115, 105, 97, 32, 102, 102, 48, 48, 102, 102, 32, 103, 111, 108, 100, 32, 102, 102, 100, 55, 48, 48, 32, 103, 114, 97, 121, 32, 56, 48, 56, 48, 56, 48, 32, 103, 114, 101, 101, 110, 32, 48, 48, 56, 48, 48, 48, 32, 105, 110, 100, 105, 103, 111, 32, 52, 98, 48, 48, 56, 50, 32, 105, 118, 111, 114, 121, 32, 102, 102, 102, 102, 102, 48, 32, 107, 104, 97, 107, 105, 32, 102, 48, 101, 54, 56, 99, 32, 108, 105, 109, 101, 32, 48, 48, 102, 102, 48, 48, 32, 108, 105, 110, 101, 110, 32, 102, 97, 102, 48, 101, 54, 32, 109, 97, 114, 111, 111, 110, 32, 56, 48, 48, 48, 48, 48, 32, 110, 97, 118, 121, 32, 48, 48, 48, 48, 56, 48, 32, 111, 108, 105, 118, 101, 32, 56, 48, 56, 48, 48, 48, 32, 111, 114, 97, 110, 103, 101, 32, 102, 102, 97, 53, 48, 48, 32, 111, 114, 99, 104, 105, 100, 32, 100, 97, 55, 48, 100, 54, 32, 112, 101, 114, 117, 32, 99, 100, 56, 53, 51, 102, 32, 112, 105, 110, 107, 32, 102, 102, 99, 48, 99, 98, 32, 112, 108, 117, 109, 32, 100, 100, 97, 48, 100, 100, 32, 112, 117, 114, 112, 108, 101, 32, 56, 48, 48, 48, 56, 48, 32, 114, 101, 100, 32, 102, 102, 48, 48, 48, 48, 32, 115, 97, 108, 109, 111, 110, 32, 102, 97, 56, 48, 55, 50, 32, 115, 105, 101, 110, 110, 97, 32, 97, 48, 53, 50, 50, 100, 32, 115, 105, 108, 118, 101, 114, 32, 99, 48, 99, 48, 99, 48, 32, 115, 110, 111, 119, 32, 102, 102, 102, 97, 102, 97, 32, 116, 97, 110, 32, 100, 50, 98, 52, 56, 99, 32, 116, 101, 97, 108, 32, 48, 48, 56, 48, 56, 48, 32, 116, 111, 109, 97, 116, 111, 32, 102, 102, 54, 51, 52, 55, 32, 118, 105, 111, 108, 101, 116, 32, 101, 101, 56, 50, 101, 101, 32, 119, 104, 101, 97, 116, 32, 102, 53, 100, 101, 98, 51, 32, 119, 104, 105, 116, 101, 32, 102, 102, 102, 102, 102, 102, 32, 121, 101, 108, 108, 111, 119, 32, 102, 102, 102, 102, 48, 48] = [
    [97, 113, 117, 97],
    [48, 48, 102, 102, 102, 102],
    [97, 122, 117, 114, 101],
    [102, 48, 102, 102, 102, 102],
    [98, 101, 105, 103, 101],
    [102, 53, 102, 53, 100, 99],
    [98, 105, 115, 113, 117, 101],
    [102, 102, 101, 52, 99, 52],
    [98, 108, 97, 99, 107],
    [48, 48, 48, 48, 48, 48],
    [98, 108, 117, 101],
    [48, 48, 48, 48, 102, 102],
    [98, 114, 111, 119, 110],
    [97, 53, 50, 97, 50, 97],
    [99, 111, 114, 97, 108],
    [102, 102, 55, 102, 53, 48],
    [102, 117, 99, 104, 115, 105, 97],
    [102, 102, 48, 48, 102, 102],
    [103, 111, 108, 100],
    [102, 102, 100, 55, 48, 48],
    [103, 114, 97, 121],
    [56, 48, 56, 48, 56, 48],
    [103, 114, 101, 101, 110],
    [48, 48, 56, 48, 48, 48],
    [105, 110, 100, 105, 103, 111],
    [52, 98, 48, 48, 56, 50],
    [105, 118, 111, 114, 121],
    [102, 102, 102, 102, 102, 48],
    [107, 104, 97, 107, 105],
    [102, 48, 101, 54, 56, 99],
    [108, 105, 109, 101],
    [48, 48, 102, 102, 48, 48],
    [108, 105, 110, 101, 110],
    [102, 97, 102, 48, 101, 54],
    [109, 97, 114, 111, 111, 110],
    [56, 48, 48, 48, 48, 48],
    [110, 97, 118, 121],
    [48, 48, 48, 48, 56, 48],
    [111, 108, 105, 118, 101],
    [56, 48, 56, 48, 48, 48],
    [111, 114, 97, 110, 103, 101],
    [102, 102, 97, 53, 48, 48],
    [111, 114, 99, 104, 105, 100],
    [100, 97, 55, 48, 100, 54],
    [112, 101, 114, 117],
    [99, 100, 56, 53, 51, 102],
    [112, 105, 110, 107],
    [102, 102, 99, 48, 99, 98],
    [112, 108, 117, 109],
    [100, 100, 97, 48, 100, 100],
    [112, 117, 114, 112, 108, 101],
    [56, 48, 48, 48, 56, 48],
    [114, 101, 100],
    [102, 102, 48, 48, 48, 48],
    [115, 97, 108, 109, 111, 110],
    [102, 97, 56, 48, 55, 50],
    [115, 105, 101, 110, 110, 97],
    [97, 48, 53, 50, 50, 100],
    [115, 105, 108, 118, 101, 114],
    [99, 48, 99, 48, 99, 48],
    [115, 110, 111, 119],
    [102, 102, 102, 97, 102, 97],
    [116, 97, 110],
    [100, 50, 98, 52, 56, 99],
    [116, 101, 97, 108],
    [48, 48, 56, 48, 56, 48],
    [116, 111, 109, 97, 116, 111],
    [102, 102, 54, 51, 52, 55],
    [118, 105, 111, 108, 101, 116],
    [101, 101, 56, 50, 101, 101],
    [119, 104, 101, 97, 116],
    [102, 53, 100, 101, 98, 51],
    [119, 104, 105, 116, 101],
    [102, 102, 102, 102, 102, 102],
    [121, 101, 108, 108, 111, 119],
    [102, 102, 102, 102, 48, 48]] := by kernel_rfl
theorem ascii_all : ([97, 113, 117, 97, 32, 48, 48, 102, 102, 102, 102, 32, 97, 122, 117, 114, 101, 32, 102, 48, 102, 102, 102, 102, 32, 98, 101, 105, 103, 101, 32, 102, 53, 102, 53, 100, 99, 32, 98, 105, 115, 113, 117, 101, 32, 102, 102, 101, 52, 99, 52, 32, 98, 108, 97, 99, 107, 32, 48, 48, 48, 48, 48, 48, 32, 98, 108, 117, 101, 32, 48, 48, 48, 48, 102, 102, 32, 98, 114, 111, 119, 110, 32, 97, 53, 50, 97, 50, 97, 32, 99, 111, 114, 97, 108, 32, 102, 102, 55, 102, 53, 48, 32, 102, 117, 99, 104, 115, 105, 97, 32, 102, 102, 48, 48, 102, 102, 32, 103, 111, 108, 100, 32, 102, 102, 100, 55, 48, 48, 32, 103, 114, 97, 121, 32, 56, 48, 56, 48, 56, 48, 32, 103, 114, 101, 101, 110, 32, 48, 48, 56, 48, 48, 48, 32, 105, 110, 100, 105, 103, 111, 32, 52, 98, 48, 48, 56, 50, 32, 105, 118, 111, 114, 121, 32, 102, 102, 102, 102, 102, 48, 32, 107, 104, 97, 107, 105, 32, 102, 48, 101, 54, 56, 99, 32, 108, 105, 109, 101, 32, 48, 48, 102, 102, 48, 48, 32, 108, 105, 110, 101, 110, 32, 102, 97, 102, 48, 101, 54, 32, 109, 97, 114, 111, 111, 110, 32, 56, 48, 48, 48, 48, 48, 32, 110, 97, 118, 121, 32, 48, 48, 48, 48, 56, 48, 32, 111, 108, 105, 118, 101, 32, 56, 48, 56, 48, 48, 48, 32, 111, 114, 97, 110, 103, 101, 32, 102, 102, 97, 53, 48, 48, 32, 111, 114, 99, 104, 105, 100, 32, 100, 97, 55, 48, 100, 54, 32, 112, 101, 114, 117, 32, 99, 100, 56, 53, 51, 102, 32, 112, 105, 110, 107, 32, 102, 102, 99, 48, 99, 98, 32, 112, 108, 117, 109, 32, 100, 100, 97, 48, 100, 100, 32, 112, 117, 114, 112, 108, 101, 32, 56, 48, 48, 48, 56, 48, 32, 114, 101, 100, 32, 102, 102, 48, 48, 48, 48, 32, 115, 97, 108, 109, 111, 110, 32, 102, 97, 56, 48, 55, 50, 32, 115, 105, 101, 110, 110, 97, 32, 97, 48, 53, 50, 50, 100, 32, 115, 105, 108, 118, 101, 114, 32, 99, 48, 99, 48, 99, 48, 32, 115, 110, 111, 119, 32, 102, 102, 102, 97, 102, 97, 32, 116, 97, 110, 32, 100, 50, 98, 52, 56, 99, 32, 116, 101, 97, 108, 32, 48, 48, 56, 48, 56, 48, 32, 116, 111, 109, 97, 116, 111, 32, 102, 102, 54, 51, 52, 55, 32, 118, 105, 111, 108, 101, 116, 32, 101, 101, 56, 50, 101, 101, 32, 119, 104, 101, 97, 116, 32, 102, 53, 100, 101, 98, 51, 32, 119, 104, 105, 116, 101, 32, 102, 102, 102, 102, 102, 102, 32, 121, 101, 108, 108, 111, 119, 32, 102, 102, 102, 102, 48, 48] : List UInt8).all (fun b => decide (b.toNat < 128)) = true := by kernel_rfl
set_option maxRecDepth 100000 in
theorem all_list : (⟨#[97, 113, 117, 97, 32, 48, 48, 102, 102, 102, 102, 32, 97, 122, 117, 114, 101, 32, 102, 48, 102, 102, 102, 102, 32, 98, 101, 105, 103, 101, 32, 102, 53, 102, 53, 100, 99, 32, 98, 105, 115, 113, 117, 101, 32, 102, 102, 101, 52, 99, 52, 32, 98, 108, 97, 99, 107, 32, 48, 48, 48, 48, 48, 48, 32, 98, 108, 117, 101, 32, 48, 48, 48, 48, 102, 102, 32, 98, 114, 111, 119, 110, 32, 97, 53, 50, 97, 50, 97, 32, 99, 111, 114, 97, 108, 32, 102, 102, 55, 102, 53, 48, 32, 102, 117, 99, 104, 115, 105, 97, 32, 102, 102, 48, 48, 102, 102, 32, 103, 111, 108, 100, 32, 102, 102, 100, 55, 48, 48, 32, 103, 114, 97, 121, 32, 56, 48, 56, 48, 56, 48, 32, 103, 114, 101, 101, 110, 32, 48, 48, 56, 48, 48, 48, 32, 105, 110, 100, 105, 103, 111, 32, 52, 98, 48, 48, 56, 50, 32, 105, 118, 111, 114, 121, 32, 102, 102, 102, 102, 102, 48, 32, 107, 104, 97, 107, 105, 32, 102, 48, 101, 54, 56, 99, 32, 108, 105, 109, 101, 32, 48, 48, 102, 102, 48, 48, 32, 108, 105, 110, 101, 110, 32, 102, 97, 102, 48, 101, 54, 32, 109, 97, 114, 111, 111, 110, 32, 56, 48, 48, 48, 48, 48, 32, 110, 97, 118, 121, 32, 48, 48, 48, 48, 56, 48, 32, 111, 108, 105, 118, 101, 32, 56, 48, 56, 48, 48, 48, 32, 111, 114, 97, 110, 103, 101, 32, 102, 102, 97, 53, 48, 48, 32, 111, 114, 99, 104, 105, 100, 32, 100, 97, 55, 48, 100, 54, 32, 112, 101, 114, 117, 32, 99, 100, 56, 53, 51, 102, 32, 112, 105, 110, 107, 32, 102, 102, 99, 48, 99, 98, 32, 112, 108, 117, 109, 32, 100, 100, 97, 48, 100, 100, 32, 112, 117, 114, 112, 108, 101, 32, 56, 48, 48, 48, 56, 48, 32, 114, 101, 100, 32, 102, 102, 48, 48, 48, 48, 32, 115, 97, 108, 109, 111, 110, 32, 102, 97, 56, 48, 55, 50, 32, 115, 105, 101, 110, 110, 97, 32, 97, 48, 53, 50, 50, 100, 32, 115, 105, 108, 118, 101, 114, 32, 99, 48, 99, 48, 99, 48, 32, 115, 110, 111, 119, 32, 102, 102, 102, 97, 102, 97, 32, 116, 97, 110, 32, 100, 50, 98, 52, 56, 99, 32, 116, 101, 97, 108, 32, 48, 48, 56, 48, 56, 48, 32, 116, 111, 109, 97, 116, 111, 32, 102, 102, 54, 51, 52, 55, 32, 118, 105, 111, 108, 101, 116, 32, 101, 101, 56, 50, 101, 101, 32, 119, 104, 101, 97, 116, 32, 102, 53, 100, 101, 98, 51, 32, 119, 104, 105, 116, 101, 32, 102, 102, 102, 102, 102, 102, 32, 121, 101, 108, 108, 111, 119, 32, 102, 102, 102, 102, 48, 48]⟩ : ByteArray).data.toList = [97, 113, 117, 97, 32, 48, 48, 102, 102, 102, 102, 32, 97, 122, 117, 114, 101, 32, 102, 48, 102, 102, 102, 102, 32, 98, 101, 105, 103, 101, 32, 102, 53, 102, 53, 100, 99, 32, 98, 105, 115, 113, 117, 101, 32, 102, 102, 101, 52, 99, 52, 32, 98, 108, 97, 99, 107, 32, 48, 48, 48, 48, 48, 48, 32, 98, 108, 117, 101, 32, 48, 48, 48, 48, 102, 102, 32, 98, 114, 111, 119, 110, 32, 97, 53, 50, 97, 50, 97, 32, 99, 111, 114, 97, 108, 32, 102, 102, 55, 102, 53, 48, 32, 102, 117, 99, 104, 115, 105, 97, 32, 102, 102, 48, 48, 102, 102, 32, 103, 111, 108, 100, 32, 102, 102, 100, 55, 48, 48, 32, 103, 114, 97, 121, 32, 56, 48, 56, 48, 56, 48, 32, 103, 114, 101, 101, 110, 32, 48, 48, 56, 48, 48, 48, 32, 105, 110, 100, 105, 103, 111, 32, 52, 98, 48, 48, 56, 50, 32, 105, 118, 111, 114, 121, 32, 102, 102, 102, 102, 102, 48, 32, 107, 104, 97, 107, 105, 32, 102, 48, 101, 54, 56, 99, 32, 108, 105, 109, 101, 32, 48, 48, 102, 102, 48, 48, 32, 108, 105, 110, 101, 110, 32, 102, 97, 102, 48, 101, 54, 32, 109, 97, 114, 111, 111, 110, 32, 56, 48, 48, 48, 48, 48, 32, 110, 97, 118, 121, 32, 48, 48, 48, 48, 56, 48, 32, 111, 108, 105, 118, 101, 32, 56, 48, 56, 48, 48, 48, 32, 111, 114, 97, 110, 103, 101, 32, 102, 102, 97, 53, 48, 48, 32, 111, 114, 99, 104, 105, 100, 32, 100, 97, 55, 48, 100, 54, 32, 112, 101, 114, 117, 32, 99, 100, 56, 53, 51, 102, 32, 112, 105, 110, 107, 32, 102, 102, 99, 48, 99, 98, 32, 112, 108, 117, 109, 32, 100, 100, 97, 48, 100, 100, 32, 112, 117, 114, 112, 108, 101, 32, 56, 48, 48, 48, 56, 48, 32, 114, 101, 100, 32, 102, 102, 48, 48, 48, 48, 32, 115, 97, 108, 109, 111, 110, 32, 102, 97, 56, 48, 55, 50, 32, 115, 105, 101, 110, 110, 97, 32, 97, 48, 53, 50, 50, 100, 32, 115, 105, 108, 118, 101, 114, 32, 99, 48, 99, 48, 99, 48, 32, 115, 110, 111, 119, 32, 102, 102, 102, 97, 102, 97, 32, 116, 97, 110, 32, 100, 50, 98, 52, 56, 99, 32, 116, 101, 97, 108, 32, 48, 48, 56, 48, 56, 48, 32, 116, 111, 109, 97, 116, 111, 32, 102, 102, 54, 51, 52, 55, 32, 118, 105, 111, 108, 101, 116, 32, 101, 101, 56, 50, 101, 101, 32, 119, 104, 101, 97, 116, 32, 102, 53, 100, 101, 98, 51, 32, 119, 104, 105, 116, 101, 32, 102, 102, 102, 102, 102, 102, 32, 121, 101, 108, 108, 111, 119, 32, 102, 102, 102, 102, 48, 48] := rfl
def colour_words.f : Option (List ByteArray) := some wordsL
set_option maxRecDepth 100000 in
theorem colour_words.calls (r : List ByteArray) (w : World) (hL : LaidW w) (h : colour_words.f = some r) :
    Calls Tryz.prog 26 #[] w fun e w' => ∃ v0_ : Value, e = .returned (v0_) ∧ Kd.R Kd.string 9 w' w.heap.size (fun _ => True) v0_ r ∧ Below w.heap.size w w' := by
  obtain rfl := Option.some.inj h
  have hc := Tryz.strings_Fields_laid ⟨#[97, 113, 117, 97, 32, 48, 48, 102, 102, 102, 102, 32, 97, 122, 117, 114, 101, 32, 102, 48, 102, 102, 102, 102, 32, 98, 101, 105, 103, 101, 32, 102, 53, 102, 53, 100, 99, 32, 98, 105, 115, 113, 117, 101, 32, 102, 102, 101, 52, 99, 52, 32, 98, 108, 97, 99, 107, 32, 48, 48, 48, 48, 48, 48, 32, 98, 108, 117, 101, 32, 48, 48, 48, 48, 102, 102, 32, 98, 114, 111, 119, 110, 32, 97, 53, 50, 97, 50, 97, 32, 99, 111, 114, 97, 108, 32, 102, 102, 55, 102, 53, 48, 32, 102, 117, 99, 104, 115, 105, 97, 32, 102, 102, 48, 48, 102, 102, 32, 103, 111, 108, 100, 32, 102, 102, 100, 55, 48, 48, 32, 103, 114, 97, 121, 32, 56, 48, 56, 48, 56, 48, 32, 103, 114, 101, 101, 110, 32, 48, 48, 56, 48, 48, 48, 32, 105, 110, 100, 105, 103, 111, 32, 52, 98, 48, 48, 56, 50, 32, 105, 118, 111, 114, 121, 32, 102, 102, 102, 102, 102, 48, 32, 107, 104, 97, 107, 105, 32, 102, 48, 101, 54, 56, 99, 32, 108, 105, 109, 101, 32, 48, 48, 102, 102, 48, 48, 32, 108, 105, 110, 101, 110, 32, 102, 97, 102, 48, 101, 54, 32, 109, 97, 114, 111, 111, 110, 32, 56, 48, 48, 48, 48, 48, 32, 110, 97, 118, 121, 32, 48, 48, 48, 48, 56, 48, 32, 111, 108, 105, 118, 101, 32, 56, 48, 56, 48, 48, 48, 32, 111, 114, 97, 110, 103, 101, 32, 102, 102, 97, 53, 48, 48, 32, 111, 114, 99, 104, 105, 100, 32, 100, 97, 55, 48, 100, 54, 32, 112, 101, 114, 117, 32, 99, 100, 56, 53, 51, 102, 32, 112, 105, 110, 107, 32, 102, 102, 99, 48, 99, 98, 32, 112, 108, 117, 109, 32, 100, 100, 97, 48, 100, 100, 32, 112, 117, 114, 112, 108, 101, 32, 56, 48, 48, 48, 56, 48, 32, 114, 101, 100, 32, 102, 102, 48, 48, 48, 48, 32, 115, 97, 108, 109, 111, 110, 32, 102, 97, 56, 48, 55, 50, 32, 115, 105, 101, 110, 110, 97, 32, 97, 48, 53, 50, 50, 100, 32, 115, 105, 108, 118, 101, 114, 32, 99, 48, 99, 48, 99, 48, 32, 115, 110, 111, 119, 32, 102, 102, 102, 97, 102, 97, 32, 116, 97, 110, 32, 100, 50, 98, 52, 56, 99, 32, 116, 101, 97, 108, 32, 48, 48, 56, 48, 56, 48, 32, 116, 111, 109, 97, 116, 111, 32, 102, 102, 54, 51, 52, 55, 32, 118, 105, 111, 108, 101, 116, 32, 101, 101, 56, 50, 101, 101, 32, 119, 104, 101, 97, 116, 32, 102, 53, 100, 101, 98, 51, 32, 119, 104, 105, 116, 101, 32, 102, 102, 102, 102, 102, 102, 32, 121, 101, 108, 108, 111, 119, 32, 102, 102, 102, 102, 48, 48]⟩ w (of_decide_eq_true (by kernel_rfl)) (by
    intro j b hb
    have hm : b ∈ ([97, 113, 117, 97, 32, 48, 48, 102, 102, 102, 102, 32, 97, 122, 117, 114, 101, 32, 102, 48, 102, 102, 102, 102, 32, 98, 101, 105, 103, 101, 32, 102, 53, 102, 53, 100, 99, 32, 98, 105, 115, 113, 117, 101, 32, 102, 102, 101, 52, 99, 52, 32, 98, 108, 97, 99, 107, 32, 48, 48, 48, 48, 48, 48, 32, 98, 108, 117, 101, 32, 48, 48, 48, 48, 102, 102, 32, 98, 114, 111, 119, 110, 32, 97, 53, 50, 97, 50, 97, 32, 99, 111, 114, 97, 108, 32, 102, 102, 55, 102, 53, 48, 32, 102, 117, 99, 104, 115, 105, 97, 32, 102, 102, 48, 48, 102, 102, 32, 103, 111, 108, 100, 32, 102, 102, 100, 55, 48, 48, 32, 103, 114, 97, 121, 32, 56, 48, 56, 48, 56, 48, 32, 103, 114, 101, 101, 110, 32, 48, 48, 56, 48, 48, 48, 32, 105, 110, 100, 105, 103, 111, 32, 52, 98, 48, 48, 56, 50, 32, 105, 118, 111, 114, 121, 32, 102, 102, 102, 102, 102, 48, 32, 107, 104, 97, 107, 105, 32, 102, 48, 101, 54, 56, 99, 32, 108, 105, 109, 101, 32, 48, 48, 102, 102, 48, 48, 32, 108, 105, 110, 101, 110, 32, 102, 97, 102, 48, 101, 54, 32, 109, 97, 114, 111, 111, 110, 32, 56, 48, 48, 48, 48, 48, 32, 110, 97, 118, 121, 32, 48, 48, 48, 48, 56, 48, 32, 111, 108, 105, 118, 101, 32, 56, 48, 56, 48, 48, 48, 32, 111, 114, 97, 110, 103, 101, 32, 102, 102, 97, 53, 48, 48, 32, 111, 114, 99, 104, 105, 100, 32, 100, 97, 55, 48, 100, 54, 32, 112, 101, 114, 117, 32, 99, 100, 56, 53, 51, 102, 32, 112, 105, 110, 107, 32, 102, 102, 99, 48, 99, 98, 32, 112, 108, 117, 109, 32, 100, 100, 97, 48, 100, 100, 32, 112, 117, 114, 112, 108, 101, 32, 56, 48, 48, 48, 56, 48, 32, 114, 101, 100, 32, 102, 102, 48, 48, 48, 48, 32, 115, 97, 108, 109, 111, 110, 32, 102, 97, 56, 48, 55, 50, 32, 115, 105, 101, 110, 110, 97, 32, 97, 48, 53, 50, 50, 100, 32, 115, 105, 108, 118, 101, 114, 32, 99, 48, 99, 48, 99, 48, 32, 115, 110, 111, 119, 32, 102, 102, 102, 97, 102, 97, 32, 116, 97, 110, 32, 100, 50, 98, 52, 56, 99, 32, 116, 101, 97, 108, 32, 48, 48, 56, 48, 56, 48, 32, 116, 111, 109, 97, 116, 111, 32, 102, 102, 54, 51, 52, 55, 32, 118, 105, 111, 108, 101, 116, 32, 101, 101, 56, 50, 101, 101, 32, 119, 104, 101, 97, 116, 32, 102, 53, 100, 101, 98, 51, 32, 119, 104, 105, 116, 101, 32, 102, 102, 102, 102, 102, 102, 32, 121, 101, 108, 108, 111, 119, 32, 102, 102, 102, 102, 48, 48] : List UInt8) := List.mem_of_getElem? hb
    have := List.all_eq_true.1 ascii_all b hm
    simpa using this) hL.space
  rw [all_list, fields_words] at hc
  have hR : ∀ W : World, Kd.R Kd.string 9 (W.alloc (.cells (wordsL.map Value.string).toArray 9)) W.heap.size (fun _ => True) (.slice (some ⟨W.heap.size, 0, none⟩) 76 76) wordsL := by
    intro W
    refine Kd.R_of_own (enc := Value.string) (h1 := fun _ => rfl) ?_ (fun _ _ => trivial)
    have := World.ownsRow_lit (base := W.heap.size) (e := 9) (size := 1) W (wordsL.map Value.string).toArray 76 (Nat.le_refl _) (by decide) (by rfl)
    exact this
  go_enter Tryz.func26, Tryz.ntmps26
  go_wp2_with (go_at_call 56; refine hc.mono ?_; rintro e w' ⟨rfl, rfl⟩)
  go_ret
  exact ⟨_, rfl, hR w, (Below.refl _ _).alloc (Nat.le_refl _) _⟩
def arrAt (v : Nat → Int) (k j : Nat) : Int := if j < k then v j else if j = 3 then 255 else 0
def Blk (W : World) (b : Nat) (a0 a1 a2 a3 : Int) : Prop := W.heap[b]? = some (.cells #[.int .i64 a0, .int .i64 a1, .int .i64 a2, .int .i64 a3] 33 (0, 0))
def St (v : Nat → Int) (w : World) (k : Nat) (wr : World) : Prop := Blk wr (w.heap.size + 1) (arrAt v k 0) (arrAt v k 1) (arrAt v k 2) (arrAt v k 3) ∧ Blk wr w.heap.size 0 0 0 0 ∧ Below w.heap.size w wr ∧ w.heap.size + 1 < wr.heap.size
def byteAt (s : ByteArray) (j : Nat) : Int := ((s.data.toList.getD j 0).toNat : Int)
theorem bytes_lt (s : ByteArray) (j : Nat) : 0 ≤ byteAt s j ∧ byteAt s j < 256 := by
  unfold byteAt
  have := UInt8.toNat_lt (s.data.toList.getD j 0)
  omega
def val1 (low : ByteArray → ByteArray) (ix : Int → Int) (s : ByteArray) (k : Nat) : Int := ix (byteAt (low (s.extract k (k + 1))) 0) * 17
def val2 (low : ByteArray → ByteArray) (ix : Int → Int) (s : ByteArray) (k : Nat) : Int := ix (byteAt (low (s.extract (k * 2) (k * 2 + 2))) 0) * 16 + ix (byteAt (low (s.extract (k * 2) (k * 2 + 2))) 1)
set_option maxHeartbeats 4000000 in
set_option maxRecDepth 100000 in
theorem dig1 (low : ByteArray → ByteArray) (ix : Int → Int) (s : ByteArray) (m : Nat) (hm : m ≤ 4) (hs : s.size = m * 1) (w : World)
    (hlow : ∀ (t : ByteArray) (W : World), t.size ≤ 8 → Below w.heap.size w W → Calls Tryz.prog 28 #[.string t] W fun e w' => e = .returned (.string (low t)) ∧ Below W.heap.size W w')
    (hsz : ∀ k, k < m → (low (s.extract k (k + 1))).size = 1)
    (hix : ∀ c, -1 ≤ ix c ∧ ix c ≤ 15)
    (hidx : ∀ (c : Int) (W : World), Calls Tryz.prog 59 #[.string ⟨#[48, 49, 50, 51, 52, 53, 54, 55, 56, 57, 97, 98, 99, 100, 101, 102]⟩, .int .u8 c] W fun e w' => e = .returned (.int .i64 (ix c)) ∧ w' = W) :
    Calls Tryz.prog 29 #[.string s, .int .i64 1] w fun e w' => e = .returned (.agg #[.int .i64 (arrAt (val1 low ix s) m 0), .int .i64 (arrAt (val1 low ix s) m 1), .int .i64 (arrAt (val1 low ix s) m 2), .int .i64 (arrAt (val1 low ix s) m 3)]) ∧ Below w.heap.size w w' := by
  have HS : Hid (s.size = m * 1) := Lib.hid hs
  clear hs
  have HSZ := Lib.hid hsz
  clear hsz
  go_enter Tryz.func29, Tryz.ntmps29
  go_wp2
  go_loopw [6] (fun i wr => ∃ k : Nat, k ≤ m ∧ i = .int .i64 k ∧ Hid (St (val1 low ix s) w k wr)) (fun i _ => m - (intOf i).toNat)
  case atStart =>
    refine ⟨0, Nat.zero_le _, rfl, Lib.hid ⟨?_, ?_, ?_, ?_⟩⟩
    · show ((w.heap.push _).push _)[w.heap.size + 1]? = _
      have e : w.heap.size + 1 = (w.heap.push (Obj.cells #[.int .i64 0, .int .i64 0, .int .i64 0, .int .i64 0] 33)).size := by simp
      rw [e, Array.getElem?_push_size]
      rfl
    · show ((w.heap.push _).push _)[w.heap.size]? = _
      rw [Array.getElem?_push]
      simp
    · exact ((Below.refl _ _).alloc (Nat.le_refl _) _).alloc (by simp) _
    · simp
  case round =>
    obtain ⟨k, hk, rfl, HST⟩ := hrel
    by_cases hlt : k < m
    · have hk4 : k = 0 ∨ k = 1 ∨ k = 2 ∨ k = 3 := by omega
      have hl := hlow (s.extract k (k + 1)) wr (by rw [ByteArray.size_extract]; omega) HST.out.2.2.1
      have hz := HSZ.out k hlt
      have HZ := Lib.hid hz; clear hz
      generalize hlw : low (s.extract k (k + 1)) = lw at hl HZ
      have HLW := Lib.hid hlw; clear hlw
      have hconv : ∀ W, (convert 9 30 (.string lw)).run Tryz.prog W = .ok (.slice (some ⟨W.heap.size, 0, none⟩) lw.size (grownCap W lw.size 0 5)) (Lib.bytesWorld W 5 lw) := fun W => Lib.run_convert_string_bytes W 9 30 5 lw Tryz.underlying9 Tryz.underlying30 Tryz.underlying5
      rcases hk4 with rfl | rfl | rfl | rfl
      · have h1 : (0 < s.size) = True := eq_true (by have := HS.out; omega)
        have h2 : ((0 : Int) < (s.size : Int)) = True := eq_true (by have := HS.out; omega)
        have h3 : ((1 : Int) ≤ (s.size : Int)) = True := eq_true (by have := HS.out; omega)
        have h4 : (1 ≤ s.size) = True := eq_true (by have := HS.out; omega)
        go_wp2_with (go_at_call 28; refine hl.mono ?_; rintro e w' ⟨rfl, hb⟩)
        have hblk := blk_below (blk_below HST.out.1 hb) (bytes_below (Below.refl _ w') (Nat.le_refl _) 5 lw)
        have hblr := blk_below (blk_below HST.out.2.1 hb) (bytes_below (Below.refl _ w') (Nat.le_refl _) 5 lw)
        have hbel : Below w.heap.size w (Lib.bytesWorld w' 5 lw) := bytes_below (HST.out.2.2.1.trans (hb.mono HST.out.2.2.1.size)) (Nat.le_trans HST.out.2.2.1.size hb.size) 5 lw
        have hcell0 : (Lib.bytesWorld w' 5 lw).cell? ⟨w'.heap.size, 0, none⟩ = some (.int .u8 (byteAt lw 0)) := Lib.bytesWorld_cell w' 5 lw 0 (by have := HZ.out; omega)
        have hsz2 : w.heap.size + 1 < (Lib.bytesWorld w' 5 lw).heap.size := by
          have h5 := HST.out.2.2.2
          have h6 := hb.size
          have h7 := Lib.bytesWorld_size w' 5 lw
          omega
        generalize Lib.bytesWorld w' 5 lw = Wb at *
        generalize grownCap w' lw.size 0 5 = cp
        rw [HZ.out]
        have hbb0 := bytes_lt lw 0
        have hi0 := hix (byteAt lw 0)
        have hcz : Wb.cell? ⟨w.heap.size + 1, 0, none⟩ = some (.int .i64 _) := (blk_cell hblk 0).trans rfl
        have hfz := blk_frozen hblk 0
        have HBK := Lib.hid hblk; clear hblk
        have HBR := Lib.hid hblr; clear hblr
        have HBL := Lib.hid hbel; clear hbel
        go_loop [7, 32] (fun n q => (q = .int .i64 0 ∧ n = .int .i64 (0)) ∨ (q = .int .i64 1 ∧ n = .int .i64 (ix (byteAt lw 0)))) (fun _ q => 1 - (intOf q).toNat)
        case atStart => exact Or.inl ⟨rfl, rfl⟩
        case round =>
          rcases hrel with ⟨rfl, rfl⟩ | ⟨rfl, rfl⟩
          · go_wp2_with (go_at_call 59; refine (hidx _ _).mono ?_; rintro e w' ⟨rfl, rfl⟩)
            go_round
            all_goals first | (refine ⟨trivial, ?_⟩; (repeat apply Exists.intro); exact ⟨Or.inr ⟨rfl, rfl⟩, rfl⟩) | exact Or.inr ⟨rfl, rfl⟩ | (simp [intOf]; done)
          · go_wp2
            go_roundw
            case rel =>
              refine ⟨1, by omega, rfl, Lib.hid ⟨?_, ?_, ?_, ?_⟩⟩
              · have h8 := blk_set HBK.out 0 (.int .i64 (ix (byteAt lw 0) * 17))
                have h9 : ix (byteAt lw 0) * 17 = val1 low ix s 0 := by unfold val1; rw [show low (s.extract 0 (0 + 1)) = lw from HLW.out]
                rw [h9] at h8 ⊢
                exact h8
              · exact blk_far HBR.out (show w.heap.size ≠ w.heap.size + 1 by omega) _
              · exact HBL.out.setCell (show w.heap.size ≤ w.heap.size + 1 by omega) _
              · simpa using hsz2
            case measure => simp [intOf]; omega
      · have h1 : (1 < s.size) = True := eq_true (by have := HS.out; omega)
        have h2 : ((1 : Int) < (s.size : Int)) = True := eq_true (by have := HS.out; omega)
        have h3 : ((2 : Int) ≤ (s.size : Int)) = True := eq_true (by have := HS.out; omega)
        have h4 : (2 ≤ s.size) = True := eq_true (by have := HS.out; omega)
        go_wp2_with (go_at_call 28; refine hl.mono ?_; rintro e w' ⟨rfl, hb⟩)
        have hblk := blk_below (blk_below HST.out.1 hb) (bytes_below (Below.refl _ w') (Nat.le_refl _) 5 lw)
        have hblr := blk_below (blk_below HST.out.2.1 hb) (bytes_below (Below.refl _ w') (Nat.le_refl _) 5 lw)
        have hbel : Below w.heap.size w (Lib.bytesWorld w' 5 lw) := bytes_below (HST.out.2.2.1.trans (hb.mono HST.out.2.2.1.size)) (Nat.le_trans HST.out.2.2.1.size hb.size) 5 lw
        have hcell0 : (Lib.bytesWorld w' 5 lw).cell? ⟨w'.heap.size, 0, none⟩ = some (.int .u8 (byteAt lw 0)) := Lib.bytesWorld_cell w' 5 lw 0 (by have := HZ.out; omega)
        have hsz2 : w.heap.size + 1 < (Lib.bytesWorld w' 5 lw).heap.size := by
          have h5 := HST.out.2.2.2
          have h6 := hb.size
          have h7 := Lib.bytesWorld_size w' 5 lw
          omega
        generalize Lib.bytesWorld w' 5 lw = Wb at *
        generalize grownCap w' lw.size 0 5 = cp
        rw [HZ.out]
        have hbb0 := bytes_lt lw 0
        have hi0 := hix (byteAt lw 0)
        have hcz : Wb.cell? ⟨w.heap.size + 1, 1, none⟩ = some (.int .i64 _) := (blk_cell hblk 1).trans rfl
        have hfz := blk_frozen hblk 1
        have HBK := Lib.hid hblk; clear hblk
        have HBR := Lib.hid hblr; clear hblr
        have HBL := Lib.hid hbel; clear hbel
        go_loop [7, 32] (fun n q => (q = .int .i64 0 ∧ n = .int .i64 (0)) ∨ (q = .int .i64 1 ∧ n = .int .i64 (ix (byteAt lw 0)))) (fun _ q => 1 - (intOf q).toNat)
        case atStart => exact Or.inl ⟨rfl, rfl⟩
        case round =>
          rcases hrel with ⟨rfl, rfl⟩ | ⟨rfl, rfl⟩
          · go_wp2_with (go_at_call 59; refine (hidx _ _).mono ?_; rintro e w' ⟨rfl, rfl⟩)
            go_round
            all_goals first | (refine ⟨trivial, ?_⟩; (repeat apply Exists.intro); exact ⟨Or.inr ⟨rfl, rfl⟩, rfl⟩) | exact Or.inr ⟨rfl, rfl⟩ | (simp [intOf]; done)
          · go_wp2
            go_roundw
            case rel =>
              refine ⟨2, by omega, rfl, Lib.hid ⟨?_, ?_, ?_, ?_⟩⟩
              · have h8 := blk_set HBK.out 1 (.int .i64 (ix (byteAt lw 0) * 17))
                have h9 : ix (byteAt lw 0) * 17 = val1 low ix s 1 := by unfold val1; rw [show low (s.extract 1 (1 + 1)) = lw from HLW.out]
                rw [h9] at h8 ⊢
                exact h8
              · exact blk_far HBR.out (show w.heap.size ≠ w.heap.size + 1 by omega) _
              · exact HBL.out.setCell (show w.heap.size ≤ w.heap.size + 1 by omega) _
              · simpa using hsz2
            case measure => simp [intOf]; omega
      · have h1 : (2 < s.size) = True := eq_true (by have := HS.out; omega)
        have h2 : ((2 : Int) < (s.size : Int)) = True := eq_true (by have := HS.out; omega)
        have h3 : ((3 : Int) ≤ (s.size : Int)) = True := eq_true (by have := HS.out; omega)
        have h4 : (3 ≤ s.size) = True := eq_true (by have := HS.out; omega)
        go_wp2_with (go_at_call 28; refine hl.mono ?_; rintro e w' ⟨rfl, hb⟩)
        have hblk := blk_below (blk_below HST.out.1 hb) (bytes_below (Below.refl _ w') (Nat.le_refl _) 5 lw)
        have hblr := blk_below (blk_below HST.out.2.1 hb) (bytes_below (Below.refl _ w') (Nat.le_refl _) 5 lw)
        have hbel : Below w.heap.size w (Lib.bytesWorld w' 5 lw) := bytes_below (HST.out.2.2.1.trans (hb.mono HST.out.2.2.1.size)) (Nat.le_trans HST.out.2.2.1.size hb.size) 5 lw
        have hcell0 : (Lib.bytesWorld w' 5 lw).cell? ⟨w'.heap.size, 0, none⟩ = some (.int .u8 (byteAt lw 0)) := Lib.bytesWorld_cell w' 5 lw 0 (by have := HZ.out; omega)
        have hsz2 : w.heap.size + 1 < (Lib.bytesWorld w' 5 lw).heap.size := by
          have h5 := HST.out.2.2.2
          have h6 := hb.size
          have h7 := Lib.bytesWorld_size w' 5 lw
          omega
        generalize Lib.bytesWorld w' 5 lw = Wb at *
        generalize grownCap w' lw.size 0 5 = cp
        rw [HZ.out]
        have hbb0 := bytes_lt lw 0
        have hi0 := hix (byteAt lw 0)
        have hcz : Wb.cell? ⟨w.heap.size + 1, 2, none⟩ = some (.int .i64 _) := (blk_cell hblk 2).trans rfl
        have hfz := blk_frozen hblk 2
        have HBK := Lib.hid hblk; clear hblk
        have HBR := Lib.hid hblr; clear hblr
        have HBL := Lib.hid hbel; clear hbel
        go_loop [7, 32] (fun n q => (q = .int .i64 0 ∧ n = .int .i64 (0)) ∨ (q = .int .i64 1 ∧ n = .int .i64 (ix (byteAt lw 0)))) (fun _ q => 1 - (intOf q).toNat)
        case atStart => exact Or.inl ⟨rfl, rfl⟩
        case round =>
          rcases hrel with ⟨rfl, rfl⟩ | ⟨rfl, rfl⟩
          · go_wp2_with (go_at_call 59; refine (hidx _ _).mono ?_; rintro e w' ⟨rfl, rfl⟩)
            go_round
            all_goals first | (refine ⟨trivial, ?_⟩; (repeat apply Exists.intro); exact ⟨Or.inr ⟨rfl, rfl⟩, rfl⟩) | exact Or.inr ⟨rfl, rfl⟩ | (simp [intOf]; done)
          · go_wp2
            go_roundw
            case rel =>
              refine ⟨3, by omega, rfl, Lib.hid ⟨?_, ?_, ?_, ?_⟩⟩
              · have h8 := blk_set HBK.out 2 (.int .i64 (ix (byteAt lw 0) * 17))
                have h9 : ix (byteAt lw 0) * 17 = val1 low ix s 2 := by unfold val1; rw [show low (s.extract 2 (2 + 1)) = lw from HLW.out]
                rw [h9] at h8 ⊢
                exact h8
              · exact blk_far HBR.out (show w.heap.size ≠ w.heap.size + 1 by omega) _
              · exact HBL.out.setCell (show w.heap.size ≤ w.heap.size + 1 by omega) _
              · simpa using hsz2
            case measure => simp [intOf]; omega
      · have h1 : (3 < s.size) = True := eq_true (by have := HS.out; omega)
        have h2 : ((3 : Int) < (s.size : Int)) = True := eq_true (by have := HS.out; omega)
        have h3 : ((4 : Int) ≤ (s.size : Int)) = True := eq_true (by have := HS.out; omega)
        have h4 : (4 ≤ s.size) = True := eq_true (by have := HS.out; omega)
        go_wp2_with (go_at_call 28; refine hl.mono ?_; rintro e w' ⟨rfl, hb⟩)
        have hblk := blk_below (blk_below HST.out.1 hb) (bytes_below (Below.refl _ w') (Nat.le_refl _) 5 lw)
        have hblr := blk_below (blk_below HST.out.2.1 hb) (bytes_below (Below.refl _ w') (Nat.le_refl _) 5 lw)
        have hbel : Below w.heap.size w (Lib.bytesWorld w' 5 lw) := bytes_below (HST.out.2.2.1.trans (hb.mono HST.out.2.2.1.size)) (Nat.le_trans HST.out.2.2.1.size hb.size) 5 lw
        have hcell0 : (Lib.bytesWorld w' 5 lw).cell? ⟨w'.heap.size, 0, none⟩ = some (.int .u8 (byteAt lw 0)) := Lib.bytesWorld_cell w' 5 lw 0 (by have := HZ.out; omega)
        have hsz2 : w.heap.size + 1 < (Lib.bytesWorld w' 5 lw).heap.size := by
          have h5 := HST.out.2.2.2
          have h6 := hb.size
          have h7 := Lib.bytesWorld_size w' 5 lw
          omega
        generalize Lib.bytesWorld w' 5 lw = Wb at *
        generalize grownCap w' lw.size 0 5 = cp
        rw [HZ.out]
        have hbb0 := bytes_lt lw 0
        have hi0 := hix (byteAt lw 0)
        have hcz : Wb.cell? ⟨w.heap.size + 1, 3, none⟩ = some (.int .i64 _) := (blk_cell hblk 3).trans rfl
        have hfz := blk_frozen hblk 3
        have HBK := Lib.hid hblk; clear hblk
        have HBR := Lib.hid hblr; clear hblr
        have HBL := Lib.hid hbel; clear hbel
        go_loop [7, 32] (fun n q => (q = .int .i64 0 ∧ n = .int .i64 (0)) ∨ (q = .int .i64 1 ∧ n = .int .i64 (ix (byteAt lw 0)))) (fun _ q => 1 - (intOf q).toNat)
        case atStart => exact Or.inl ⟨rfl, rfl⟩
        case round =>
          rcases hrel with ⟨rfl, rfl⟩ | ⟨rfl, rfl⟩
          · go_wp2_with (go_at_call 59; refine (hidx _ _).mono ?_; rintro e w' ⟨rfl, rfl⟩)
            go_round
            all_goals first | (refine ⟨trivial, ?_⟩; (repeat apply Exists.intro); exact ⟨Or.inr ⟨rfl, rfl⟩, rfl⟩) | exact Or.inr ⟨rfl, rfl⟩ | (simp [intOf]; done)
          · go_wp2
            go_roundw
            case rel =>
              refine ⟨4, by omega, rfl, Lib.hid ⟨?_, ?_, ?_, ?_⟩⟩
              · have h8 := blk_set HBK.out 3 (.int .i64 (ix (byteAt lw 0) * 17))
                have h9 : ix (byteAt lw 0) * 17 = val1 low ix s 3 := by unfold val1; rw [show low (s.extract 3 (3 + 1)) = lw from HLW.out]
                rw [h9] at h8 ⊢
                exact h8
              · exact blk_far HBR.out (show w.heap.size ≠ w.heap.size + 1 by omega) _
              · exact HBL.out.setCell (show w.heap.size ≤ w.heap.size + 1 by omega) _
              · simpa using hsz2
            case measure => simp [intOf]; omega
    · obtain rfl : k = m := by omega
      have h1 : (k * 1 < s.size) = False := eq_false (by have := HS.out; omega)
      have h2 : ((k : Int) < (s.size : Int)) = False := eq_false (by have := HS.out; omega)
      have h2' : (k < s.size) = False := eq_false (by have := HS.out; omega)
      have hk0 : (k : Int) ≤ 4 := by omega
      obtain ⟨hA, hR, hB, hS⟩ := HST.out
      have ha0 := (blk_cell hA 0).trans rfl
      have ha1 := (blk_cell hA 1).trans rfl
      have ha2 := (blk_cell hA 2).trans rfl
      have ha3 := (blk_cell hA 3).trans rfl
      have hr0 := (blk_cell hR 0).trans rfl
      have hr1 := (blk_cell hR 1).trans rfl
      have hr2 := (blk_cell hR 2).trans rfl
      have hr3 := (blk_cell hR 3).trans rfl
      have hf0 := blk_frozen hR 0
      have hf1 := blk_frozen hR 1
      have hf2 := blk_frozen hR 2
      have hf3 := blk_frozen hR 3
      have HB := Lib.hid hB
      have HR := Lib.hid hR
      clear hA hR hB
      go_wp2
      have hb4 := blk_set (blk_set (blk_set (blk_set HR.out 0 (.int .i64 (arrAt (val1 low ix s) k 0))) 1 (.int .i64 (arrAt (val1 low ix s) k 1))) 2 (.int .i64 (arrAt (val1 low ix s) k 2))) 3 (.int .i64 (arrAt (val1 low ix s) k 3))
      have hq0 := (blk_cell hb4 0).trans rfl
      have hq1 := (blk_cell hb4 1).trans rfl
      have hq2 := (blk_cell hb4 2).trans rfl
      have hq3 := (blk_cell hb4 3).trans rfl
      clear hb4
      exact bodyPost_ret (v := .agg #[.int .i64 (arrAt (val1 low ix s) k 0), .int .i64 (arrAt (val1 low ix s) k 1), .int .i64 (arrAt (val1 low ix s) k 2), .int .i64 (arrAt (val1 low ix s) k 3)]) (by simp [results, Tryz.results29, go_sem, hq0, hq1, hq2, hq3]) rfl ⟨rfl, (((HB.out.setCell (Nat.le_refl _) _).setCell (Nat.le_refl _) _).setCell (Nat.le_refl _) _).setCell (Nat.le_refl _) _⟩
set_option maxHeartbeats 4000000 in
set_option maxRecDepth 100000 in
theorem dig2 (low : ByteArray → ByteArray) (ix : Int → Int) (s : ByteArray) (m : Nat) (hm : m ≤ 4) (hs : s.size = m * 2) (w : World)
    (hlow : ∀ (t : ByteArray) (W : World), t.size ≤ 8 → Below w.heap.size w W → Calls Tryz.prog 28 #[.string t] W fun e w' => e = .returned (.string (low t)) ∧ Below W.heap.size W w')
    (hsz : ∀ k, k < m → (low (s.extract (k * 2) (k * 2 + 2))).size = 2)
    (hix : ∀ c, -1 ≤ ix c ∧ ix c ≤ 15)
    (hidx : ∀ (c : Int) (W : World), Calls Tryz.prog 59 #[.string ⟨#[48, 49, 50, 51, 52, 53, 54, 55, 56, 57, 97, 98, 99, 100, 101, 102]⟩, .int .u8 c] W fun e w' => e = .returned (.int .i64 (ix c)) ∧ w' = W) :
    Calls Tryz.prog 29 #[.string s, .int .i64 2] w fun e w' => e = .returned (.agg #[.int .i64 (arrAt (val2 low ix s) m 0), .int .i64 (arrAt (val2 low ix s) m 1), .int .i64 (arrAt (val2 low ix s) m 2), .int .i64 (arrAt (val2 low ix s) m 3)]) ∧ Below w.heap.size w w' := by
  have HS : Hid (s.size = m * 2) := Lib.hid hs
  clear hs
  have HSZ := Lib.hid hsz
  clear hsz
  go_enter Tryz.func29, Tryz.ntmps29
  go_wp2
  go_loopw [6] (fun i wr => ∃ k : Nat, k ≤ m ∧ i = .int .i64 k ∧ Hid (St (val2 low ix s) w k wr)) (fun i _ => m - (intOf i).toNat)
  case atStart =>
    refine ⟨0, Nat.zero_le _, rfl, Lib.hid ⟨?_, ?_, ?_, ?_⟩⟩
    · show ((w.heap.push _).push _)[w.heap.size + 1]? = _
      have e : w.heap.size + 1 = (w.heap.push (Obj.cells #[.int .i64 0, .int .i64 0, .int .i64 0, .int .i64 0] 33)).size := by simp
      rw [e, Array.getElem?_push_size]
      rfl
    · show ((w.heap.push _).push _)[w.heap.size]? = _
      rw [Array.getElem?_push]
      simp
    · exact ((Below.refl _ _).alloc (Nat.le_refl _) _).alloc (by simp) _
    · simp
  case round =>
    obtain ⟨k, hk, rfl, HST⟩ := hrel
    by_cases hlt : k < m
    · have hk4 : k = 0 ∨ k = 1 ∨ k = 2 ∨ k = 3 := by omega
      have hl := hlow (s.extract (k * 2) (k * 2 + 2)) wr (by rw [ByteArray.size_extract]; omega) HST.out.2.2.1
      have hz := HSZ.out k hlt
      have HZ := Lib.hid hz; clear hz
      generalize hlw : low (s.extract (k * 2) (k * 2 + 2)) = lw at hl HZ
      have HLW := Lib.hid hlw; clear hlw
      have hconv : ∀ W, (convert 9 30 (.string lw)).run Tryz.prog W = .ok (.slice (some ⟨W.heap.size, 0, none⟩) lw.size (grownCap W lw.size 0 5)) (Lib.bytesWorld W 5 lw) := fun W => Lib.run_convert_string_bytes W 9 30 5 lw Tryz.underlying9 Tryz.underlying30 Tryz.underlying5
      rcases hk4 with rfl | rfl | rfl | rfl
      · have h1 : (0 < s.size) = True := eq_true (by have := HS.out; omega)
        have h2 : ((0 : Int) < (s.size : Int)) = True := eq_true (by have := HS.out; omega)
        have h3 : ((2 : Int) ≤ (s.size : Int)) = True := eq_true (by have := HS.out; omega)
        have h4 : (2 ≤ s.size) = True := eq_true (by have := HS.out; omega)
        go_wp2_with (go_at_call 28; refine hl.mono ?_; rintro e w' ⟨rfl, hb⟩)
        have hblk := blk_below (blk_below HST.out.1 hb) (bytes_below (Below.refl _ w') (Nat.le_refl _) 5 lw)
        have hblr := blk_below (blk_below HST.out.2.1 hb) (bytes_below (Below.refl _ w') (Nat.le_refl _) 5 lw)
        have hbel : Below w.heap.size w (Lib.bytesWorld w' 5 lw) := bytes_below (HST.out.2.2.1.trans (hb.mono HST.out.2.2.1.size)) (Nat.le_trans HST.out.2.2.1.size hb.size) 5 lw
        have hcell0 : (Lib.bytesWorld w' 5 lw).cell? ⟨w'.heap.size, 0, none⟩ = some (.int .u8 (byteAt lw 0)) := Lib.bytesWorld_cell w' 5 lw 0 (by have := HZ.out; omega)
        have hcell1 : (Lib.bytesWorld w' 5 lw).cell? ⟨w'.heap.size, 1, none⟩ = some (.int .u8 (byteAt lw 1)) := Lib.bytesWorld_cell w' 5 lw 1 (by have := HZ.out; omega)
        have hsz2 : w.heap.size + 1 < (Lib.bytesWorld w' 5 lw).heap.size := by
          have h5 := HST.out.2.2.2
          have h6 := hb.size
          have h7 := Lib.bytesWorld_size w' 5 lw
          omega
        generalize Lib.bytesWorld w' 5 lw = Wb at *
        generalize grownCap w' lw.size 0 5 = cp
        rw [HZ.out]
        have hbb0 := bytes_lt lw 0
        have hi0 := hix (byteAt lw 0)
        have hbb1 := bytes_lt lw 1
        have hi1 := hix (byteAt lw 1)
        have hcz : Wb.cell? ⟨w.heap.size + 1, 0, none⟩ = some (.int .i64 _) := (blk_cell hblk 0).trans rfl
        have hfz := blk_frozen hblk 0
        have HBK := Lib.hid hblk; clear hblk
        have HBR := Lib.hid hblr; clear hblr
        have HBL := Lib.hid hbel; clear hbel
        go_loop [7, 32] (fun n q => (q = .int .i64 0 ∧ n = .int .i64 (0)) ∨ (q = .int .i64 1 ∧ n = .int .i64 (ix (byteAt lw 0))) ∨ (q = .int .i64 2 ∧ n = .int .i64 (ix (byteAt lw 0) * 16 + ix (byteAt lw 1)))) (fun _ q => 2 - (intOf q).toNat)
        case atStart => exact Or.inl ⟨rfl, rfl⟩
        case round =>
          rcases hrel with ⟨rfl, rfl⟩ | ⟨rfl, rfl⟩ | ⟨rfl, rfl⟩
          · go_wp2_with (go_at_call 59; refine (hidx _ _).mono ?_; rintro e w' ⟨rfl, rfl⟩)
            go_round
            all_goals first | (refine ⟨trivial, ?_⟩; (repeat apply Exists.intro); exact ⟨Or.inr (Or.inl ⟨rfl, rfl⟩), rfl⟩) | exact Or.inr (Or.inl ⟨rfl, rfl⟩) | (simp [intOf]; done)
          · go_wp2_with (go_at_call 59; refine (hidx _ _).mono ?_; rintro e w' ⟨rfl, rfl⟩)
            go_round
            all_goals first | (refine ⟨trivial, ?_⟩; (repeat apply Exists.intro); exact ⟨Or.inr (Or.inr ⟨rfl, rfl⟩), rfl⟩) | exact Or.inr (Or.inr ⟨rfl, rfl⟩) | (simp [intOf]; done)
          · go_wp2
            go_roundw
            case rel =>
              refine ⟨1, by omega, rfl, Lib.hid ⟨?_, ?_, ?_, ?_⟩⟩
              · have h8 := blk_set HBK.out 0 (.int .i64 (ix (byteAt lw 0) * 16 + ix (byteAt lw 1)))
                have h9 : ix (byteAt lw 0) * 16 + ix (byteAt lw 1) = val2 low ix s 0 := by unfold val2; rw [show low (s.extract (0 * 2) (0 * 2 + 2)) = lw from HLW.out]
                rw [h9] at h8 ⊢
                exact h8
              · exact blk_far HBR.out (show w.heap.size ≠ w.heap.size + 1 by omega) _
              · exact HBL.out.setCell (show w.heap.size ≤ w.heap.size + 1 by omega) _
              · simpa using hsz2
            case measure => simp [intOf]; omega
      · have h1 : (2 < s.size) = True := eq_true (by have := HS.out; omega)
        have h2 : ((2 : Int) < (s.size : Int)) = True := eq_true (by have := HS.out; omega)
        have h3 : ((4 : Int) ≤ (s.size : Int)) = True := eq_true (by have := HS.out; omega)
        have h4 : (4 ≤ s.size) = True := eq_true (by have := HS.out; omega)
        go_wp2_with (go_at_call 28; refine hl.mono ?_; rintro e w' ⟨rfl, hb⟩)
        have hblk := blk_below (blk_below HST.out.1 hb) (bytes_below (Below.refl _ w') (Nat.le_refl _) 5 lw)
        have hblr := blk_below (blk_below HST.out.2.1 hb) (bytes_below (Below.refl _ w') (Nat.le_refl _) 5 lw)
        have hbel : Below w.heap.size w (Lib.bytesWorld w' 5 lw) := bytes_below (HST.out.2.2.1.trans (hb.mono HST.out.2.2.1.size)) (Nat.le_trans HST.out.2.2.1.size hb.size) 5 lw
        have hcell0 : (Lib.bytesWorld w' 5 lw).cell? ⟨w'.heap.size, 0, none⟩ = some (.int .u8 (byteAt lw 0)) := Lib.bytesWorld_cell w' 5 lw 0 (by have := HZ.out; omega)
        have hcell1 : (Lib.bytesWorld w' 5 lw).cell? ⟨w'.heap.size, 1, none⟩ = some (.int .u8 (byteAt lw 1)) := Lib.bytesWorld_cell w' 5 lw 1 (by have := HZ.out; omega)
        have hsz2 : w.heap.size + 1 < (Lib.bytesWorld w' 5 lw).heap.size := by
          have h5 := HST.out.2.2.2
          have h6 := hb.size
          have h7 := Lib.bytesWorld_size w' 5 lw
          omega
        generalize Lib.bytesWorld w' 5 lw = Wb at *
        generalize grownCap w' lw.size 0 5 = cp
        rw [HZ.out]
        have hbb0 := bytes_lt lw 0
        have hi0 := hix (byteAt lw 0)
        have hbb1 := bytes_lt lw 1
        have hi1 := hix (byteAt lw 1)
        have hcz : Wb.cell? ⟨w.heap.size + 1, 1, none⟩ = some (.int .i64 _) := (blk_cell hblk 1).trans rfl
        have hfz := blk_frozen hblk 1
        have HBK := Lib.hid hblk; clear hblk
        have HBR := Lib.hid hblr; clear hblr
        have HBL := Lib.hid hbel; clear hbel
        go_loop [7, 32] (fun n q => (q = .int .i64 0 ∧ n = .int .i64 (0)) ∨ (q = .int .i64 1 ∧ n = .int .i64 (ix (byteAt lw 0))) ∨ (q = .int .i64 2 ∧ n = .int .i64 (ix (byteAt lw 0) * 16 + ix (byteAt lw 1)))) (fun _ q => 2 - (intOf q).toNat)
        case atStart => exact Or.inl ⟨rfl, rfl⟩
        case round =>
          rcases hrel with ⟨rfl, rfl⟩ | ⟨rfl, rfl⟩ | ⟨rfl, rfl⟩
          · go_wp2_with (go_at_call 59; refine (hidx _ _).mono ?_; rintro e w' ⟨rfl, rfl⟩)
            go_round
            all_goals first | (refine ⟨trivial, ?_⟩; (repeat apply Exists.intro); exact ⟨Or.inr (Or.inl ⟨rfl, rfl⟩), rfl⟩) | exact Or.inr (Or.inl ⟨rfl, rfl⟩) | (simp [intOf]; done)
          · go_wp2_with (go_at_call 59; refine (hidx _ _).mono ?_; rintro e w' ⟨rfl, rfl⟩)
            go_round
            all_goals first | (refine ⟨trivial, ?_⟩; (repeat apply Exists.intro); exact ⟨Or.inr (Or.inr ⟨rfl, rfl⟩), rfl⟩) | exact Or.inr (Or.inr ⟨rfl, rfl⟩) | (simp [intOf]; done)
          · go_wp2
            go_roundw
            case rel =>
              refine ⟨2, by omega, rfl, Lib.hid ⟨?_, ?_, ?_, ?_⟩⟩
              · have h8 := blk_set HBK.out 1 (.int .i64 (ix (byteAt lw 0) * 16 + ix (byteAt lw 1)))
                have h9 : ix (byteAt lw 0) * 16 + ix (byteAt lw 1) = val2 low ix s 1 := by unfold val2; rw [show low (s.extract (1 * 2) (1 * 2 + 2)) = lw from HLW.out]
                rw [h9] at h8 ⊢
                exact h8
              · exact blk_far HBR.out (show w.heap.size ≠ w.heap.size + 1 by omega) _
              · exact HBL.out.setCell (show w.heap.size ≤ w.heap.size + 1 by omega) _
              · simpa using hsz2
            case measure => simp [intOf]; omega
      · have h1 : (4 < s.size) = True := eq_true (by have := HS.out; omega)
        have h2 : ((4 : Int) < (s.size : Int)) = True := eq_true (by have := HS.out; omega)
        have h3 : ((6 : Int) ≤ (s.size : Int)) = True := eq_true (by have := HS.out; omega)
        have h4 : (6 ≤ s.size) = True := eq_true (by have := HS.out; omega)
        go_wp2_with (go_at_call 28; refine hl.mono ?_; rintro e w' ⟨rfl, hb⟩)
        have hblk := blk_below (blk_below HST.out.1 hb) (bytes_below (Below.refl _ w') (Nat.le_refl _) 5 lw)
        have hblr := blk_below (blk_below HST.out.2.1 hb) (bytes_below (Below.refl _ w') (Nat.le_refl _) 5 lw)
        have hbel : Below w.heap.size w (Lib.bytesWorld w' 5 lw) := bytes_below (HST.out.2.2.1.trans (hb.mono HST.out.2.2.1.size)) (Nat.le_trans HST.out.2.2.1.size hb.size) 5 lw
        have hcell0 : (Lib.bytesWorld w' 5 lw).cell? ⟨w'.heap.size, 0, none⟩ = some (.int .u8 (byteAt lw 0)) := Lib.bytesWorld_cell w' 5 lw 0 (by have := HZ.out; omega)
        have hcell1 : (Lib.bytesWorld w' 5 lw).cell? ⟨w'.heap.size, 1, none⟩ = some (.int .u8 (byteAt lw 1)) := Lib.bytesWorld_cell w' 5 lw 1 (by have := HZ.out; omega)
        have hsz2 : w.heap.size + 1 < (Lib.bytesWorld w' 5 lw).heap.size := by
          have h5 := HST.out.2.2.2
          have h6 := hb.size
          have h7 := Lib.bytesWorld_size w' 5 lw
          omega
        generalize Lib.bytesWorld w' 5 lw = Wb at *
        generalize grownCap w' lw.size 0 5 = cp
        rw [HZ.out]
        have hbb0 := bytes_lt lw 0
        have hi0 := hix (byteAt lw 0)
        have hbb1 := bytes_lt lw 1
        have hi1 := hix (byteAt lw 1)
        have hcz : Wb.cell? ⟨w.heap.size + 1, 2, none⟩ = some (.int .i64 _) := (blk_cell hblk 2).trans rfl
        have hfz := blk_frozen hblk 2
        have HBK := Lib.hid hblk; clear hblk
        have HBR := Lib.hid hblr; clear hblr
        have HBL := Lib.hid hbel; clear hbel
        go_loop [7, 32] (fun n q => (q = .int .i64 0 ∧ n = .int .i64 (0)) ∨ (q = .int .i64 1 ∧ n = .int .i64 (ix (byteAt lw 0))) ∨ (q = .int .i64 2 ∧ n = .int .i64 (ix (byteAt lw 0) * 16 + ix (byteAt lw 1)))) (fun _ q => 2 - (intOf q).toNat)
        case atStart => exact Or.inl ⟨rfl, rfl⟩
        case round =>
          rcases hrel with ⟨rfl, rfl⟩ | ⟨rfl, rfl⟩ | ⟨rfl, rfl⟩
          · go_wp2_with (go_at_call 59; refine (hidx _ _).mono ?_; rintro e w' ⟨rfl, rfl⟩)
            go_round
            all_goals first | (refine ⟨trivial, ?_⟩; (repeat apply Exists.intro); exact ⟨Or.inr (Or.inl ⟨rfl, rfl⟩), rfl⟩) | exact Or.inr (Or.inl ⟨rfl, rfl⟩) | (simp [intOf]; done)
          · go_wp2_with (go_at_call 59; refine (hidx _ _).mono ?_; rintro e w' ⟨rfl, rfl⟩)
            go_round
            all_goals first | (refine ⟨trivial, ?_⟩; (repeat apply Exists.intro); exact ⟨Or.inr (Or.inr ⟨rfl, rfl⟩), rfl⟩) | exact Or.inr (Or.inr ⟨rfl, rfl⟩) | (simp [intOf]; done)
          · go_wp2
            go_roundw
            case rel =>
              refine ⟨3, by omega, rfl, Lib.hid ⟨?_, ?_, ?_, ?_⟩⟩
              · have h8 := blk_set HBK.out 2 (.int .i64 (ix (byteAt lw 0) * 16 + ix (byteAt lw 1)))
                have h9 : ix (byteAt lw 0) * 16 + ix (byteAt lw 1) = val2 low ix s 2 := by unfold val2; rw [show low (s.extract (2 * 2) (2 * 2 + 2)) = lw from HLW.out]
                rw [h9] at h8 ⊢
                exact h8
              · exact blk_far HBR.out (show w.heap.size ≠ w.heap.size + 1 by omega) _
              · exact HBL.out.setCell (show w.heap.size ≤ w.heap.size + 1 by omega) _
              · simpa using hsz2
            case measure => simp [intOf]; omega
      · have h1 : (6 < s.size) = True := eq_true (by have := HS.out; omega)
        have h2 : ((6 : Int) < (s.size : Int)) = True := eq_true (by have := HS.out; omega)
        have h3 : ((8 : Int) ≤ (s.size : Int)) = True := eq_true (by have := HS.out; omega)
        have h4 : (8 ≤ s.size) = True := eq_true (by have := HS.out; omega)
        go_wp2_with (go_at_call 28; refine hl.mono ?_; rintro e w' ⟨rfl, hb⟩)
        have hblk := blk_below (blk_below HST.out.1 hb) (bytes_below (Below.refl _ w') (Nat.le_refl _) 5 lw)
        have hblr := blk_below (blk_below HST.out.2.1 hb) (bytes_below (Below.refl _ w') (Nat.le_refl _) 5 lw)
        have hbel : Below w.heap.size w (Lib.bytesWorld w' 5 lw) := bytes_below (HST.out.2.2.1.trans (hb.mono HST.out.2.2.1.size)) (Nat.le_trans HST.out.2.2.1.size hb.size) 5 lw
        have hcell0 : (Lib.bytesWorld w' 5 lw).cell? ⟨w'.heap.size, 0, none⟩ = some (.int .u8 (byteAt lw 0)) := Lib.bytesWorld_cell w' 5 lw 0 (by have := HZ.out; omega)
        have hcell1 : (Lib.bytesWorld w' 5 lw).cell? ⟨w'.heap.size, 1, none⟩ = some (.int .u8 (byteAt lw 1)) := Lib.bytesWorld_cell w' 5 lw 1 (by have := HZ.out; omega)
        have hsz2 : w.heap.size + 1 < (Lib.bytesWorld w' 5 lw).heap.size := by
          have h5 := HST.out.2.2.2
          have h6 := hb.size
          have h7 := Lib.bytesWorld_size w' 5 lw
          omega
        generalize Lib.bytesWorld w' 5 lw = Wb at *
        generalize grownCap w' lw.size 0 5 = cp
        rw [HZ.out]
        have hbb0 := bytes_lt lw 0
        have hi0 := hix (byteAt lw 0)
        have hbb1 := bytes_lt lw 1
        have hi1 := hix (byteAt lw 1)
        have hcz : Wb.cell? ⟨w.heap.size + 1, 3, none⟩ = some (.int .i64 _) := (blk_cell hblk 3).trans rfl
        have hfz := blk_frozen hblk 3
        have HBK := Lib.hid hblk; clear hblk
        have HBR := Lib.hid hblr; clear hblr
        have HBL := Lib.hid hbel; clear hbel
        go_loop [7, 32] (fun n q => (q = .int .i64 0 ∧ n = .int .i64 (0)) ∨ (q = .int .i64 1 ∧ n = .int .i64 (ix (byteAt lw 0))) ∨ (q = .int .i64 2 ∧ n = .int .i64 (ix (byteAt lw 0) * 16 + ix (byteAt lw 1)))) (fun _ q => 2 - (intOf q).toNat)
        case atStart => exact Or.inl ⟨rfl, rfl⟩
        case round =>
          rcases hrel with ⟨rfl, rfl⟩ | ⟨rfl, rfl⟩ | ⟨rfl, rfl⟩
          · go_wp2_with (go_at_call 59; refine (hidx _ _).mono ?_; rintro e w' ⟨rfl, rfl⟩)
            go_round
            all_goals first | (refine ⟨trivial, ?_⟩; (repeat apply Exists.intro); exact ⟨Or.inr (Or.inl ⟨rfl, rfl⟩), rfl⟩) | exact Or.inr (Or.inl ⟨rfl, rfl⟩) | (simp [intOf]; done)
          · go_wp2_with (go_at_call 59; refine (hidx _ _).mono ?_; rintro e w' ⟨rfl, rfl⟩)
            go_round
            all_goals first | (refine ⟨trivial, ?_⟩; (repeat apply Exists.intro); exact ⟨Or.inr (Or.inr ⟨rfl, rfl⟩), rfl⟩) | exact Or.inr (Or.inr ⟨rfl, rfl⟩) | (simp [intOf]; done)
          · go_wp2
            go_roundw
            case rel =>
              refine ⟨4, by omega, rfl, Lib.hid ⟨?_, ?_, ?_, ?_⟩⟩
              · have h8 := blk_set HBK.out 3 (.int .i64 (ix (byteAt lw 0) * 16 + ix (byteAt lw 1)))
                have h9 : ix (byteAt lw 0) * 16 + ix (byteAt lw 1) = val2 low ix s 3 := by unfold val2; rw [show low (s.extract (3 * 2) (3 * 2 + 2)) = lw from HLW.out]
                rw [h9] at h8 ⊢
                exact h8
              · exact blk_far HBR.out (show w.heap.size ≠ w.heap.size + 1 by omega) _
              · exact HBL.out.setCell (show w.heap.size ≤ w.heap.size + 1 by omega) _
              · simpa using hsz2
            case measure => simp [intOf]; omega
    · obtain rfl : k = m := by omega
      have h1 : (k * 2 < s.size) = False := eq_false (by have := HS.out; omega)
      have h2 : ((k : Int) * 2 < (s.size : Int)) = False := eq_false (by have := HS.out; omega)
      have hk0 : (k : Int) ≤ 4 := by omega
      obtain ⟨hA, hR, hB, hS⟩ := HST.out
      have ha0 := (blk_cell hA 0).trans rfl
      have ha1 := (blk_cell hA 1).trans rfl
      have ha2 := (blk_cell hA 2).trans rfl
      have ha3 := (blk_cell hA 3).trans rfl
      have hr0 := (blk_cell hR 0).trans rfl
      have hr1 := (blk_cell hR 1).trans rfl
      have hr2 := (blk_cell hR 2).trans rfl
      have hr3 := (blk_cell hR 3).trans rfl
      have hf0 := blk_frozen hR 0
      have hf1 := blk_frozen hR 1
      have hf2 := blk_frozen hR 2
      have hf3 := blk_frozen hR 3
      have HB := Lib.hid hB
      have HR := Lib.hid hR
      clear hA hR hB
      go_wp2
      have hb4 := blk_set (blk_set (blk_set (blk_set HR.out 0 (.int .i64 (arrAt (val2 low ix s) k 0))) 1 (.int .i64 (arrAt (val2 low ix s) k 1))) 2 (.int .i64 (arrAt (val2 low ix s) k 2))) 3 (.int .i64 (arrAt (val2 low ix s) k 3))
      have hq0 := (blk_cell hb4 0).trans rfl
      have hq1 := (blk_cell hb4 1).trans rfl
      have hq2 := (blk_cell hb4 2).trans rfl
      have hq3 := (blk_cell hb4 3).trans rfl
      clear hb4
      exact bodyPost_ret (v := .agg #[.int .i64 (arrAt (val2 low ix s) k 0), .int .i64 (arrAt (val2 low ix s) k 1), .int .i64 (arrAt (val2 low ix s) k 2), .int .i64 (arrAt (val2 low ix s) k 3)]) (by simp [results, Tryz.results29, go_sem, hq0, hq1, hq2, hq3]) rfl ⟨rfl, (((HB.out.setCell (Nat.le_refl _) _).setCell (Nat.le_refl _) _).setCell (Nat.le_refl _) _).setCell (Nat.le_refl _) _⟩
def hexT : List UInt8 := [48, 49, 50, 51, 52, 53, 54, 55, 56, 57, 97, 98, 99, 100, 101, 102]
def ixS (c : Int) : Int := Lib.indexByte hexT c.toNat.toUInt8
theorem index_range : ∀ (l : List UInt8) (c : UInt8), -1 ≤ Lib.indexByte l c ∧ Lib.indexByte l c < (l.length : Int)
  | [], c => by simp [Lib.indexByte]
  | d :: l, c => by
    have := index_range l c
    unfold Lib.indexByte
    simp only [List.length_cons]
    split
    · omega
    · split <;> omega
theorem ixS_range (c : Int) : -1 ≤ ixS c ∧ ixS c ≤ 15 := by
  have := index_range hexT c.toNat.toUInt8
  have e : hexT.length = 16 := rfl
  unfold ixS
  omega
def asciiL (l : List UInt8) : Bool := l.all fun c => decide (c.toNat < 128)
theorem ascii_mem {l : List UInt8} (h : asciiL l = true) : ∀ c ∈ l, c.toNat < 128 := fun c hc => by
  have := List.all_eq_true.1 h c hc
  simpa using this
theorem ex_list (s : ByteArray) (a b : Nat) : (s.extract a b).data.toList = (s.data.toList.take b).drop a := by
  rw [ByteArray.data_extract, Array.toList_extract, List.extract_eq_take_drop, List.drop_take]
theorem low_size (s : ByteArray) (h : asciiL s.data.toList = true) (a b : Nat) : (lowS (s.extract a b)).size = (s.extract a b).size := by
  have hm : ∀ c ∈ (s.extract a b).data.toList, c.toNat < 128 := fun c hc => by
    rw [ex_list] at hc
    exact ascii_mem h c (List.mem_of_mem_take (List.mem_of_mem_drop hc))
  unfold lowS
  rw [Lib.size_eq, Lib.size_eq]
  show (Lib.mapD lowF (s.extract a b).data.toList).length = _
  rw [mapD_ascii _ hm, List.length_map]
def digF (m : Nat) (v : Nat → Int) : Int × Int × Int × Int := (arrAt v m 0, arrAt v m 1, arrAt v m 2, arrAt v m 3)
def colour_digits.f (a0 : ByteArray) (a1 : Int) : Option (Int × Int × Int × Int) :=
  if asciiL a0.data.toList = true then
    if a1 = 1 ∧ a0.size ≤ 4 then some (digF a0.size (val1 lowS ixS a0))
    else if a1 = 2 ∧ a0.size ≤ 8 ∧ a0.size % 2 = 0 then some (digF (a0.size / 2) (val2 lowS ixS a0)) else none
  else none
theorem colour_digits.calls (a0 : ByteArray) (a1 : Int) (r1 r2 r3 r4 : Int) (w : World) (hL : LaidW w) (h : colour_digits.f a0 a1 = some (r1, r2, r3, r4)) :
    Calls Tryz.prog 29 #[.string a0, .int .i64 a1] w fun e w' => e = .returned (.agg #[.int .i64 r1, .int .i64 r2, .int .i64 r3, .int .i64 r4]) ∧ Below w.heap.size w w' := by
  have hlow : ∀ (t : ByteArray) (W : World), t.size ≤ 8 → Below w.heap.size w W → Calls Tryz.prog 28 #[.string t] W fun e w' => e = .returned (.string (lowS t)) ∧ Below W.heap.size W w' :=
    fun t W ht hb => colour_lower.calls t (lowS t) W (hL.below hb) (by unfold colour_lower.f; rw [if_pos (by omega)]; rfl)
  have hidx : ∀ (c : Int) (W : World), Calls Tryz.prog 59 #[.string ⟨#[48, 49, 50, 51, 52, 53, 54, 55, 56, 57, 97, 98, 99, 100, 101, 102]⟩, .int .u8 c] W fun e w' => e = .returned (.int .i64 (ixS c)) ∧ w' = W :=
    fun c W => Tryz.strings_IndexByte _ c W
  unfold colour_digits.f at h
  split at h
  · rename_i ha
    split at h
    · rename_i h1
      obtain ⟨rfl, hs⟩ := h1
      have hr := Option.some.inj h
      unfold digF at hr
      simp only [Prod.mk.injEq] at hr
      obtain ⟨rfl, rfl, rfl, rfl⟩ := hr
      exact dig1 lowS ixS a0 a0.size hs (by omega) w hlow (fun k hk => by rw [low_size a0 ha, ByteArray.size_extract]; omega) ixS_range hidx
    · split at h
      · rename_i h1
        obtain ⟨rfl, hs, h2⟩ := h1
        have hr := Option.some.inj h
        unfold digF at hr
        simp only [Prod.mk.injEq] at hr
        obtain ⟨rfl, rfl, rfl, rfl⟩ := hr
        exact dig2 lowS ixS a0 (a0.size / 2) (by omega) (by omega) w hlow (fun k hk => by rw [low_size a0 ha, ByteArray.size_extract]; omega) ixS_range hidx
      · exact absurd h (by simp)
  · exact absurd h (by simp)
end Go.Proofs.YthonpnaccjajcaaGreatDoorX
