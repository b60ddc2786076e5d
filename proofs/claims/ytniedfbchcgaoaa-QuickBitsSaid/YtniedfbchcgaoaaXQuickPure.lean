/- Plain laws: Data, Text and Skips of the program and of the reference tell the same. -/
import Derived.Test.YtniedfbchcgaoaaPAfquickData
import Derived.Test.YtniedfbchcgaoaaPAfquicklater
import Derived.Test.YtniedfbchcgaoaaPAfremoraref21Data
import Derived.Test.YtniedfbchcgaoaaPAfremoraref21Skips
import Derived.Test.YtniedfbchcgaoaaPAfremoraref21Text
import Derived.Test.YtniedfbchcgaoaaPAfremoraref21has
import Derived.Test.YtniedfbchcgaoaaPAfremoraref21later
import Derived.Test.YtniedfbchcgaoaaPAx0
import Derived.Test.YtniedfbchcgaoaaXBitPure
import Derived.Test.YtniedfbchcgaoaaXDiffPure
import Derived.Test.YtniedfbchcgaoaaXNearPure
import Derived.Test.YtniedfbchcgaoaaXquickSkips
import Derived.Test.YtniedfbchcgaoaaXquickText
namespace Go.Proofs.Ytniedfbchcgaoaa.PA
open Go.RowKit Go.Proofs.YtniedfbchcgaoaaW.PrintWords Go.Proofs.YtniedfbchcgaoaaW.PrintLast Go.Proofs.YtniedfbchcgaoaaW.PrintMore
attribute [local go_sem] max2_int min2_int max_two min_two max_three min_three max_four min_four
set_option linter.unusedVariables false
set_option linter.unusedSimpArgs false
theorem and_mask (a : Int) (m : Nat) (hm : m < 4611686018427387904) : Go.bits .and .i64 a (m : Int) = (((BitVec.ofInt 64 a).toNat &&& m : Nat) : Int) := by
  have e2 : (BitVec.ofInt 64 (m : Int)).toNat = m := by
    rw [BitVec.ofInt_natCast, BitVec.toNat_ofNat]
    exact Nat.mod_eq_of_lt (by omega)
  show IntKind.i64.wrap (((BitVec.ofInt 64 a) &&& (BitVec.ofInt 64 (m : Int))).toNat : Int) = _
  rw [BitVec.toNat_and, e2]
  exact wrap_small _ (Nat.lt_of_le_of_lt Nat.and_le_right (by omega))
theorem and_or0 (a : Int) (m n : Nat) (hm : m < 4611686018427387904) (hn : n < 4611686018427387904) (hmn : m ||| n < 4611686018427387904) : (Go.bits .and .i64 a ((m ||| n : Nat) : Int) != 0) = ((Go.bits .and .i64 a (m : Int) != 0) || (Go.bits .and .i64 a (n : Int) != 0)) := by
  rw [and_mask a _ hmn, and_mask a m hm, and_mask a n hn, Nat.and_or_distrib_left]
  generalize (BitVec.ofInt 64 a).toNat &&& m = x
  generalize (BitVec.ofInt 64 a).toNat &&& n = y
  have key : (x ||| y = 0) ↔ (x = 0 ∧ y = 0) := Nat.or_eq_zero_iff
  rw [Bool.eq_iff_iff]
  simp only [Bool.or_eq_true, bne_iff_ne, ne_eq]
  constructor
  · intro h
    by_cases hx : x = 0
    · right
      intro hy
      exact h (by exact_mod_cast key.2 ⟨hx, by exact_mod_cast hy⟩)
    · left
      intro hx'
      exact hx (by exact_mod_cast hx')
  · intro h h0
    have := key.1 (by exact_mod_cast h0)
    rcases h with h | h
    · exact h (by rw [this.1]; rfl)
    · exact h (by rw [this.2]; rfl)
def hasB (d n : Int) : Bool := Go.bits .and .i64 d n != 0
def dataB (d : Int) (chk so : Bool) : Bool := if chk = true then hasB d 1 || hasB d 2 || hasB d 4 || hasB d 128 else if so = true then hasB d 1 || hasB d 2 || hasB d 4 else hasB d 1 || hasB d 2 || hasB d 4 || hasB d 8
theorem data_prog (a0 : Int) (a1_0 : Int) (a1_1 : Int) (a1_2 : Bool) (a1_3 : Bool) (a1_4 : Bool) (a1_5 : Bool) (a1_6 : Bool) (a1_7 : Bool) (a1_8 : Bool) (a1_9 : Bool) (a1_10 : Bool) (a1_11 : Bool) (a1_12 : Bool) (a1_13 : Bool) (a1_14 : Bool) (a1_15 : Bool) (a1_16 : Bool) (a1_17 : Bool) (a1_18 : Int) (a1_19 : Int) (a1_20 : Int) : quick_Data.f a0 a1_0 a1_1 a1_2 a1_3 a1_4 a1_5 a1_6 a1_7 a1_8 a1_9 a1_10 a1_11 a1_12 a1_13 a1_14 a1_15 a1_16 a1_17 a1_18 a1_19 a1_20 = some (dataB a0 a1_2 a1_3) := by
  have m135 : Go.bits .or .i64 3 132 = ((((1 ||| 2) ||| 4) ||| 128 : Nat) : Int) := by decide
  have m7 : Go.bits .or .i64 3 4 = (((1 ||| 2) ||| 4 : Nat) : Int) := by decide
  have m15 : Go.bits .or .i64 3 12 = ((((1 ||| 2) ||| 4) ||| 8 : Nat) : Int) := by decide
  unfold quick_Data.f dataB hasB
  rw [m135, m7, m15, and_or0 a0 ((1 ||| 2) ||| 4) 128 (by decide) (by decide) (by decide), and_or0 a0 ((1 ||| 2) ||| 4) 8 (by decide) (by decide) (by decide), and_or0 a0 (1 ||| 2) 4 (by decide) (by decide) (by decide), and_or0 a0 1 2 (by decide) (by decide) (by decide)]
  cases a1_2 <;> cases a1_3 <;> rfl
theorem data_ref (a0 : Int) (a1_0 : Int) (a1_1 : Int) (a1_2 : Bool) (a1_3 : Bool) (a1_4 : Bool) (a1_5 : Bool) (a1_6 : Bool) (a1_7 : Bool) (a1_8 : Bool) (a1_9 : Bool) (a1_10 : Bool) (a1_11 : Bool) (a1_12 : Bool) (a1_13 : Bool) (a1_14 : Bool) (a1_15 : Bool) (a1_16 : Bool) (a1_17 : Bool) (a1_18 : Int) (a1_19 : Int) (a1_20 : Int) : remoraref21_Data.f 100 a0 a1_0 a1_1 a1_2 a1_3 a1_4 a1_5 a1_6 a1_7 a1_8 a1_9 a1_10 a1_11 a1_12 a1_13 a1_14 a1_15 a1_16 a1_17 a1_18 a1_19 a1_20 = some (dataB a0 a1_2 a1_3) := by
  unfold remoraref21_Data.f dataB
  have hf : ∀ d n, remoraref21_has.f d n = some (hasB d n) := fun _ _ => rfl
  simp only [hf, Option.bind_some]
  generalize hasB a0 1 = h1
  generalize hasB a0 2 = h2
  generalize hasB a0 4 = h4
  have hj : ∀ b, remoraref21_Data.j0 100 a0 b a1_0 a1_1 a1_2 a1_3 a1_4 a1_5 a1_6 a1_7 a1_8 a1_9 a1_10 a1_11 a1_12 a1_13 a1_14 a1_15 a1_16 a1_17 a1_18 a1_19 a1_20 = some (if b = true then true else if a1_2 = true then hasB a0 128 else if a1_3 = true then false else hasB a0 8) := by
    intro b
    show remoraref21_Data.j0 (99 + 1) _ _ _ _ _ _ _ _ _ _ _ _ _ _ _ _ _ _ _ _ _ _ _ = _
    simp only [remoraref21_Data.j0, hf, Option.bind_some]
    cases b <;> cases a1_2 <;> cases a1_3 <;> rfl
  simp only [hj]
  cases h1 <;> cases h2 <;> cases h4 <;> cases a1_2 <;> cases a1_3 <;> simp
theorem bitSet_and (a : Int) (i : Nat) (hi : i < 62) : bitSet a i = hasB a (2 ^ i) := by
  unfold bitSet hasB
  rw [and_one, and_pow a i hi, Bool.eq_iff_iff]
  simp only [Bool.not_eq_true', beq_eq_false_iff_ne, bne_iff_ne, ne_eq]
  have hpos : (0 : Int) < 2 ^ i := Int.pow_pos (by decide)
  constructor
  · intro h h0
    rcases Int.mul_eq_zero.1 h0 with h1 | h1
    · omega
    · exact h h1
  · intro h h0
    exact h (by rw [h0, Int.mul_zero])
def rsign (a : Int) (i : Nat) : Int := if bitSet a i = false then 46 else signL.getD i 0
def rpre (a : Int) (i : Nat) : ByteArray := strOfNums ((List.range i).map (rsign a))
theorem rpre_nine (a : Int) : rpre a 9 = textSpec a := by
  unfold rpre textSpec textL
  congr 1
  apply List.map_congr_left
  intro i hi
  have : i < 9 := by simpa using hi
  simp [rsign, this]
theorem rpre_succ (a : Int) (i : Nat) : rpre a (i + 1) = rpre a i ++ strOfNums [rsign a i] := by
  unfold rpre
  rw [List.range_succ, List.map_append]
  simp [strOfNums, ByteArray.append_eq, ByteArray.ext_iff]
theorem rpre_size (a : Int) (i : Nat) : (rpre a i).size = i := by
  simp [rpre, strOfNums, ByteArray.size]
theorem rtext_step (k : Nat) (a : Int) (i : Nat) (hi : i < 9) : remoraref21_Text.l0 (k + 1) a (rpre a i) (2 ^ i) (i : Int) = remoraref21_Text.l0 k a (rpre a (i + 1)) (2 ^ (i + 1)) ((i + 1 : Nat) : Int) := by
  have hsz := rpre_size a i
  have hb := bitSet_and a i (by omega)
  have hsucc := rpre_succ a i
  have hf : ∀ d n, remoraref21_has.f d n = some (hasB d n) := fun _ _ => rfl
  simp only [remoraref21_Text.l0, hf, Option.bind_some]
  rw [if_pos (show (i : Int) < 9 by omega), ← hb]
  have hw : wrap64 ((i : Int) + 1) = ((i + 1 : Nat) : Int) := by rw [w64 (by omega) (by omega)]; omega
  have hp : (2 : Int) ^ i ≤ 256 := by
    have : i = 0 ∨ i = 1 ∨ i = 2 ∨ i = 3 ∨ i = 4 ∨ i = 5 ∨ i = 6 ∨ i = 7 ∨ i = 8 := by omega
    rcases this with rfl | rfl | rfl | rfl | rfl | rfl | rfl | rfl | rfl <;> decide
  have hp0 : (0 : Int) < 2 ^ i := Int.pow_pos (by decide)
  have hw2 : wrap64 (2 * (2 : Int) ^ i) = 2 ^ (i + 1) := by
    rw [w64 (by omega) (by omega), Int.pow_succ, Int.mul_comm]
  rw [hw, hw2]
  cases hbs : bitSet a i with
  | true =>
    rw [if_pos rfl, if_pos (by omega), if_pos (by omega), if_pos (by omega)]
    have hr : rsign a i = signL.getD i 0 := by simp [rsign, hbs]
    have hx : (⟨#[110, 107, 115, 116, 109, 111, 108, 100, 104]⟩ : ByteArray).extract (i : Int).toNat ((i + 1 : Nat) : Int).toNat = strOfNums [rsign a i] := by
      rw [hr]
      have : i = 0 ∨ i = 1 ∨ i = 2 ∨ i = 3 ∨ i = 4 ∨ i = 5 ∨ i = 6 ∨ i = 7 ∨ i = 8 := by omega
      rcases this with rfl | rfl | rfl | rfl | rfl | rfl | rfl | rfl | rfl <;> decide
    rw [hx, hsz, strOfNums_size, if_pos (by simp; omega), ← hsucc]
  | false =>
    rw [if_neg (by simp)]
    have hr : rsign a i = 46 := by simp [rsign, hbs]
    have hx : (⟨#[46]⟩ : ByteArray) = strOfNums [rsign a i] := by rw [hr]; rfl
    rw [hx, hsz, if_pos (by omega), ← hsucc]
theorem rtext_loop (a : Int) : ∀ (j k i : Nat), i + j = 9 → remoraref21_Text.l0 (j + (k + 1)) a (rpre a i) (2 ^ i) (i : Int) = some (rpre a 9)
  | 0, k, i, h => by
    obtain rfl : i = 9 := by omega
    show remoraref21_Text.l0 (0 + (k + 1)) a (rpre a 9) _ _ = _
    rw [Nat.zero_add]
    simp only [remoraref21_Text.l0]
    rw [if_neg (by omega)]
  | j + 1, k, i, h => by
    have e : j + 1 + (k + 1) = (j + (k + 1)) + 1 := by omega
    rw [e, rtext_step _ a i (by omega)]
    exact rtext_loop a j k (i + 1) (by omega)
theorem rtext_f (a : Int) : remoraref21_Text.f 100 a = some (textSpec a) := by
  unfold remoraref21_Text.f
  rw [← rpre_nine]
  exact rtext_loop a 9 90 0 rfl
def laterB (x1 x2 y1 y2 : Int) : Bool := if x1 > y1 then true else if x1 = y1 then decide (x2 > y2) else false
theorem later_prog (a b c d e f g h i j : Int) : quick_later.f a b c d e f g h i j = some (laterB b c g h) := by
  unfold quick_later.f laterB
  split
  · rfl
  · split <;> rfl
theorem later_ref (a b c d e f g h i j : Int) : remoraref21_later.f a b c d e f g h i j = some (laterB b c g h) := by
  unfold remoraref21_later.f laterB
  split
  · rfl
  · split <;> rfl
theorem skips_prog (a0_0 : ByteArray) (a0_1 : Int) (a0_2 : Int) (a0_3 : Int) (a0_4 : Int) (a0_5 : Int) (a0_6 : Int) (a0_7 : Int) (a0_8 : ByteArray) (a0_9 : ByteArray) (a0_10 : Int) (a1_0 : ByteArray) (a1_1 : Int) (a1_2 : Int) (a1_3 : Int) (a1_4 : Int) (a1_5 : Int) (a1_6 : Int) (a1_7 : Int) (a1_8 : ByteArray) (a1_9 : ByteArray) (a1_10 : Int) (a2 : Bool) (a3_0 : Int) (a3_1 : Int) (a3_2 : Bool) (a3_3 : Bool) (a3_4 : Bool) (a3_5 : Bool) (a3_6 : Bool) (a3_7 : Bool) (a3_8 : Bool) (a3_9 : Bool) (a3_10 : Bool) (a3_11 : Bool) (a3_12 : Bool) (a3_13 : Bool) (a3_14 : Bool) (a3_15 : Bool) (a3_16 : Bool) (a3_17 : Bool) (a3_18 : Int) (a3_19 : Int) (a3_20 : Int) : quick_Skips.f a0_0 a0_1 a0_2 a0_3 a0_4 a0_5 a0_6 a0_7 a0_8 a0_9 a0_10 a1_0 a1_1 a1_2 a1_3 a1_4 a1_5 a1_6 a1_7 a1_8 a1_9 a1_10 a2 a3_0 a3_1 a3_2 a3_3 a3_4 a3_5 a3_6 a3_7 a3_8 a3_9 a3_10 a3_11 a3_12 a3_13 a3_14 a3_15 a3_16 a3_17 a3_18 a3_19 a3_20 = some (skipsB a2 (a0_1 == 2 && a1_1 == 2) (a0_1 == 1 && a1_1 == 1) (laterB a1_4 a1_5 a0_4 a0_5) (nearB a0_3 a0_4 a0_5 a0_6 a0_7 a1_3 a1_4 a1_5 a1_6 a1_7 a3_18) a3_5 a3_6 a3_4) := by
  unfold quick_Skips.f
  rw [later_prog, Option.bind_some, quick_near_f, Option.bind_some]
theorem skips_ref (a0_0 : ByteArray) (a0_1 : Int) (a0_2 : Int) (a0_3 : Int) (a0_4 : Int) (a0_5 : Int) (a0_6 : Int) (a0_7 : Int) (a0_8 : ByteArray) (a0_9 : ByteArray) (a0_10 : Int) (a1_0 : ByteArray) (a1_1 : Int) (a1_2 : Int) (a1_3 : Int) (a1_4 : Int) (a1_5 : Int) (a1_6 : Int) (a1_7 : Int) (a1_8 : ByteArray) (a1_9 : ByteArray) (a1_10 : Int) (a2 : Bool) (a3_0 : Int) (a3_1 : Int) (a3_2 : Bool) (a3_3 : Bool) (a3_4 : Bool) (a3_5 : Bool) (a3_6 : Bool) (a3_7 : Bool) (a3_8 : Bool) (a3_9 : Bool) (a3_10 : Bool) (a3_11 : Bool) (a3_12 : Bool) (a3_13 : Bool) (a3_14 : Bool) (a3_15 : Bool) (a3_16 : Bool) (a3_17 : Bool) (a3_18 : Int) (a3_19 : Int) (a3_20 : Int) : remoraref21_Skips.f 100 a0_0 a0_1 a0_2 a0_3 a0_4 a0_5 a0_6 a0_7 a0_8 a0_9 a0_10 a1_0 a1_1 a1_2 a1_3 a1_4 a1_5 a1_6 a1_7 a1_8 a1_9 a1_10 a2 a3_0 a3_1 a3_2 a3_3 a3_4 a3_5 a3_6 a3_7 a3_8 a3_9 a3_10 a3_11 a3_12 a3_13 a3_14 a3_15 a3_16 a3_17 a3_18 a3_19 a3_20 = some (skipsB a2 (a0_1 == 2 && a1_1 == 2) (a0_1 == 1 && a1_1 == 1) (laterB a1_4 a1_5 a0_4 a0_5) (nearB a0_3 a0_4 a0_5 a0_6 a0_7 a1_3 a1_4 a1_5 a1_6 a1_7 a3_18) a3_5 a3_6 a3_4) := by
  unfold remoraref21_Skips.f
  have hj : ∀ b, remoraref21_Skips.j0 100 b a0_0 a0_1 a0_2 a0_3 a0_4 a0_5 a0_6 a0_7 a0_8 a0_9 a0_10 a1_0 a1_1 a1_2 a1_3 a1_4 a1_5 a1_6 a1_7 a1_8 a1_9 a1_10 a3_0 a3_1 a3_2 a3_3 a3_4 a3_5 a3_6 a3_7 a3_8 a3_9 a3_10 a3_11 a3_12 a3_13 a3_14 a3_15 a3_16 a3_17 a3_18 a3_19 a3_20 = some (if b = true then true else (a3_4 && ((a0_1 == 1 && a1_1 == 1) && (laterB a1_4 a1_5 a0_4 a0_5 && !(nearB a0_3 a0_4 a0_5 a0_6 a0_7 a1_3 a1_4 a1_5 a1_6 a1_7 a3_18))))) := by
    intro b
    show remoraref21_Skips.j0 (99 + 1) b _ _ _ _ _ _ _ _ _ _ _ _ _ _ _ _ _ _ _ _ _ _ _ _ _ _ _ _ _ _ _ _ _ _ _ _ _ _ _ _ _ _ _ = _
    simp only [remoraref21_Skips.j0, later_ref, Option.bind_some, near_refB 97]
    generalize nearB a0_3 a0_4 a0_5 a0_6 a0_7 a1_3 a1_4 a1_5 a1_6 a1_7 a3_18 = t
    generalize laterB a1_4 a1_5 a0_4 a0_5 = l
    cases b with
    | true => rfl
    | false =>
      cases a3_4 with
      | false => rfl
      | true =>
        by_cases h1 : a0_1 = 1
        · by_cases h2 : a1_1 = 1
          · simp only [h1, h2, if_true, Bool.false_eq_true, if_false]
            cases l <;> rfl
          · have : (a1_1 == 1) = false := beq_eq_false_iff_ne.mpr h2
            simp [h1, h2]
        · have : (a0_1 == 1) = false := beq_eq_false_iff_ne.mpr h1
          simp [h1]
  simp only [hj]
  generalize nearB a0_3 a0_4 a0_5 a0_6 a0_7 a1_3 a1_4 a1_5 a1_6 a1_7 a3_18 = t
  generalize laterB a1_4 a1_5 a0_4 a0_5 = l
  unfold skipsB
  cases a2 with
  | false => cases a3_5 <;> simp
  | true =>
    by_cases h1 : a0_1 = 2
    · have e1 : (a0_1 == 2) = true := beq_iff_eq.mpr h1
      rw [if_pos h1, e1]
      cases hb : (a1_1 == 2) <;> cases a3_6 <;> cases a3_5 <;> cases a3_4 <;> cases l <;> simp [bne, hb]
    · have e1 : (a0_1 == 2) = false := beq_eq_false_iff_ne.mpr h1
      rw [if_neg h1, e1]
      cases a3_6 <;> cases a3_5 <;> cases a3_4 <;> cases l <;> simp
end Go.Proofs.Ytniedfbchcgaoaa.PA
