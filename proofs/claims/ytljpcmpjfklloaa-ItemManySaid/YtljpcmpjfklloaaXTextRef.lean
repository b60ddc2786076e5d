/- Plain: the reference's signs are the signs (the head of QuickPure.py by itself, its names with a T). -/
import Derived.Test.YtljpcmpjfklloaaPAfremoraref21Text
import Derived.Test.YtljpcmpjfklloaaPAfremoraref21has
import Derived.Test.YtljpcmpjfklloaaPAx0
import Derived.Test.YtljpcmpjfklloaaXBitPure
import Derived.Test.YtljpcmpjfklloaaXSplitSpec
import Derived.Test.YtljpcmpjfklloaaXquickText
namespace Go.Proofs.Ytljpcmpjfklloaa.PA
open Go.RowKit Go.Proofs.YtljpcmpjfklloaaW.PrintWords Go.Proofs.YtljpcmpjfklloaaW.PrintLast Go.Proofs.YtljpcmpjfklloaaW.PrintMore
attribute [local go_sem] max2_int min2_int max_two min_two max_three min_three max_four min_four
set_option linter.unusedVariables false
set_option linter.unusedSimpArgs false
theorem and_maskT (a : Int) (m : Nat) (hm : m < 4611686018427387904) : Go.bits .and .i64 a (m : Int) = (((BitVec.ofInt 64 a).toNat &&& m : Nat) : Int) := by
  have e2 : (BitVec.ofInt 64 (m : Int)).toNat = m := by
    rw [BitVec.ofInt_natCast, BitVec.toNat_ofNat]
    exact Nat.mod_eq_of_lt (by omega)
  show IntKind.i64.wrap (((BitVec.ofInt 64 a) &&& (BitVec.ofInt 64 (m : Int))).toNat : Int) = _
  rw [BitVec.toNat_and, e2]
  exact wrap_small _ (Nat.lt_of_le_of_lt Nat.and_le_right (by omega))
theorem and_or0T (a : Int) (m n : Nat) (hm : m < 4611686018427387904) (hn : n < 4611686018427387904) (hmn : m ||| n < 4611686018427387904) : (Go.bits .and .i64 a ((m ||| n : Nat) : Int) != 0) = ((Go.bits .and .i64 a (m : Int) != 0) || (Go.bits .and .i64 a (n : Int) != 0)) := by
  rw [and_maskT a _ hmn, and_maskT a m hm, and_maskT a n hn, Nat.and_or_distrib_left]
  generalize (BitVec.ofInt 64 a).toNat &&& m = x
  generalize (BitVec.ofInt 64 a).toNat &&& n = y
  have key : (x ||| y = 0) ↔ (x = 0 ∧ y = 0) := Nat.or_eq_zero_iff
  rw [Bool.eq_iff_iff]
  simp only [Bool.or_eq_true, bne_iff_ne, ne_eq]
  constructor
  · intro h
    by_cases hx : x = 0
    · right
      intro hy
      exact h (by exact_mod_cast key.2 ⟨hx, by exact_mod_cast hy⟩)
    · left
      intro hx'
      exact hx (by exact_mod_cast hx')
  · intro h h0
    have := key.1 (by exact_mod_cast h0)
    rcases h with h | h
    · exact h (by rw [this.1]; rfl)
    · exact h (by rw [this.2]; rfl)
def hasBT (d n : Int) : Bool := Go.bits .and .i64 d n != 0
theorem bitSet_andT (a : Int) (i : Nat) (hi : i < 62) : bitSet a i = hasBT a (2 ^ i) := by
  unfold bitSet hasBT
  rw [and_one, and_pow a i hi, Bool.eq_iff_iff]
  simp only [Bool.not_eq_true', beq_eq_false_iff_ne, bne_iff_ne, ne_eq]
  have hpos : (0 : Int) < 2 ^ i := Int.pow_pos (by decide)
  constructor
  · intro h h0
    rcases Int.mul_eq_zero.1 h0 with h1 | h1
    · omega
    · exact h h1
  · intro h h0
    exact h (by rw [h0, Int.mul_zero])
def rsignT (a : Int) (i : Nat) : Int := if bitSet a i = false then 46 else signL.getD i 0
def rpreT (a : Int) (i : Nat) : ByteArray := strOfNums ((List.range i).map (rsignT a))
theorem rpre_nineT (a : Int) : rpreT a 9 = textSpec a := by
  unfold rpreT textSpec textL
  congr 1
  apply List.map_congr_left
  intro i hi
  have : i < 9 := by simpa using hi
  simp [rsignT, this]
theorem rpre_succT (a : Int) (i : Nat) : rpreT a (i + 1) = rpreT a i ++ strOfNums [rsignT a i] := by
  unfold rpreT
  rw [List.range_succ, List.map_append]
  simp [strOfNums, ByteArray.append_eq, ByteArray.ext_iff]
theorem rpre_sizeT (a : Int) (i : Nat) : (rpreT a i).size = i := by
  simp [rpreT, strOfNums, ByteArray.size]
theorem rtext_stepT (k : Nat) (a : Int) (i : Nat) (hi : i < 9) : remoraref21_Text.l0 (k + 1) a (rpreT a i) (2 ^ i) (i : Int) = remoraref21_Text.l0 k a (rpreT a (i + 1)) (2 ^ (i + 1)) ((i + 1 : Nat) : Int) := by
  have hsz := rpre_sizeT a i
  have hb := bitSet_andT a i (by omega)
  have hsucc := rpre_succT a i
  have hf : ∀ d n, remoraref21_has.f d n = some (hasBT d n) := fun _ _ => rfl
  simp only [remoraref21_Text.l0, hf, Option.bind_some]
  rw [if_pos (show (i : Int) < 9 by omega), ← hb]
  have hw : wrap64 ((i : Int) + 1) = ((i + 1 : Nat) : Int) := by rw [wr64 _ (by omega) (by omega)]; omega
  have hp : (2 : Int) ^ i ≤ 256 := by
    have : i = 0 ∨ i = 1 ∨ i = 2 ∨ i = 3 ∨ i = 4 ∨ i = 5 ∨ i = 6 ∨ i = 7 ∨ i = 8 := by omega
    rcases this with rfl | rfl | rfl | rfl | rfl | rfl | rfl | rfl | rfl <;> decide
  have hp0 : (0 : Int) < 2 ^ i := Int.pow_pos (by decide)
  have hw2 : wrap64 (2 * (2 : Int) ^ i) = 2 ^ (i + 1) := by
    rw [wr64 _ (by omega) (by omega), Int.pow_succ, Int.mul_comm]
  rw [hw, hw2]
  cases hbs : bitSet a i with
  | true =>
    rw [if_pos rfl, if_pos (by omega), if_pos (by omega), if_pos (by omega)]
    have hr : rsignT a i = signL.getD i 0 := by simp [rsignT, hbs]
    have hx : (⟨#[110, 107, 115, 116, 109, 111, 108, 100, 104]⟩ : ByteArray).extract (i : Int).toNat ((i + 1 : Nat) : Int).toNat = strOfNums [rsignT a i] := by
      rw [hr]
      have : i = 0 ∨ i = 1 ∨ i = 2 ∨ i = 3 ∨ i = 4 ∨ i = 5 ∨ i = 6 ∨ i = 7 ∨ i = 8 := by omega
      rcases this with rfl | rfl | rfl | rfl | rfl | rfl | rfl | rfl | rfl <;> decide
    rw [hx, hsz, strOfNums_size, if_pos (by simp; omega), ← hsucc]
  | false =>
    rw [if_neg (by simp)]
    have hr : rsignT a i = 46 := by simp [rsignT, hbs]
    have hx : (⟨#[46]⟩ : ByteArray) = strOfNums [rsignT a i] := by rw [hr]; rfl
    rw [hx, hsz, if_pos (by omega), ← hsucc]
theorem rtext_loopT (a : Int) : ∀ (j k i : Nat), i + j = 9 → remoraref21_Text.l0 (j + (k + 1)) a (rpreT a i) (2 ^ i) (i : Int) = some (rpreT a 9)
  | 0, k, i, h => by
    obtain rfl : i = 9 := by omega
    show remoraref21_Text.l0 (0 + (k + 1)) a (rpreT a 9) _ _ = _
    rw [Nat.zero_add]
    simp only [remoraref21_Text.l0]
    rw [if_neg (by omega)]
  | j + 1, k, i, h => by
    have e : j + 1 + (k + 1) = (j + (k + 1)) + 1 := by omega
    rw [e, rtext_stepT _ a i (by omega)]
    exact rtext_loopT a j k (i + 1) (by omega)
theorem rtext_fT (a : Int) : remoraref21_Text.f 100 a = some (textSpec a) := by
  unfold remoraref21_Text.f
  rw [← rpre_nineT]
  exact rtext_loopT a 9 90 0 rfl
end Go.Proofs.Ytljpcmpjfklloaa.PA
