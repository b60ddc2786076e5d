/- Plain lemmas: the signs of a number with one bit more. -/
import Derived.Test.YtniedfbchcgaoaaPAx0
import Derived.Test.YtniedfbchcgaoaaXQuickPure
import Derived.Test.YtniedfbchcgaoaaXquickText
namespace Go.Proofs.Ytniedfbchcgaoaa.PA
open Go.RowKit Go.Proofs.YtniedfbchcgaoaaW.PrintWords Go.Proofs.YtniedfbchcgaoaaW.PrintLast Go.Proofs.YtniedfbchcgaoaaW.PrintMore
attribute [local go_sem] max2_int min2_int max_two min_two max_three min_three max_four min_four
set_option linter.unusedVariables false
set_option linter.unusedSimpArgs false
theorem textSpec_size (a : Int) : (textSpec a).size = 9 := by
  rw [← rpre_nine, rpre_size]
theorem wrap_back (n : Nat) (h : n < 18446744073709551616) : (BitVec.ofInt 64 (IntKind.i64.wrap (n : Int))).toNat = n := by
  have := uOf (IntKind.i64.wrap (n : Int))
  rw [IntKind.wrap_i64] at *
  omega
theorem or_toNat (d : Int) (m : Nat) (hm : m < 4611686018427387904) : (BitVec.ofInt 64 (Go.bits .or .i64 d (m : Int))).toNat = (BitVec.ofInt 64 d).toNat ||| m := by
  have e2 : (BitVec.ofInt 64 (m : Int)).toNat = m := by
    rw [BitVec.ofInt_natCast, BitVec.toNat_ofNat]
    exact Nat.mod_eq_of_lt (by omega)
  show (BitVec.ofInt 64 (IntKind.i64.wrap (((BitVec.ofInt 64 d) ||| (BitVec.ofInt 64 (m : Int))).toNat : Int))).toNat = _
  rw [BitVec.toNat_or, e2]
  refine wrap_back _ ?_
  have h1 : (BitVec.ofInt 64 d).toNat < 2 ^ 64 := (BitVec.ofInt 64 d).isLt
  exact Nat.or_lt_two_pow (n := 64) h1 (by omega)
theorem hasB_pow (a : Int) (k : Nat) (hk : k < 62) : hasB a (2 ^ k) = (BitVec.ofInt 64 a).toNat.testBit k := by
  have hp : (2 : Nat) ^ k < 2 ^ 62 := Nat.pow_lt_pow_right (by decide) hk
  have h62 : (2 : Nat) ^ 62 = 4611686018427387904 := by decide
  have hc : ((2 : Int) ^ k) = ((2 ^ k : Nat) : Int) := by simp
  have hpos : 0 < (2 : Nat) ^ k := Nat.two_pow_pos k
  unfold hasB
  rw [hc, and_mask a _ (by omega), nat_and_pow, Nat.testBit_eq_decide_div_mod_eq, Bool.eq_iff_iff]
  simp only [bne_iff_ne, ne_eq, decide_eq_true_eq]
  constructor
  · intro h
    by_cases hb : (BitVec.ofInt 64 a).toNat / 2 ^ k % 2 = 1
    · exact hb
    · rw [if_neg hb] at h
      exact absurd rfl h
  · intro h h0
    rw [if_pos h] at h0
    have : (2 : Nat) ^ k = 0 := by exact_mod_cast h0
    omega
theorem hasB_or (d : Int) (j k : Nat) (hj : j < 62) (hk : k < 62) : hasB (Go.bits .or .i64 d (2 ^ j)) (2 ^ k) = (hasB d (2 ^ k) || decide (j = k)) := by
  have hp : (2 : Nat) ^ j < 2 ^ 62 := Nat.pow_lt_pow_right (by decide) hj
  have h62 : (2 : Nat) ^ 62 = 4611686018427387904 := by decide
  have hc : ((2 : Int) ^ j) = ((2 ^ j : Nat) : Int) := by simp
  rw [hasB_pow _ k hk, hasB_pow _ k hk, hc, or_toNat _ _ (by omega), Nat.testBit_or, Nat.testBit_two_pow]
theorem bitSet_or (d : Int) (j k : Nat) (hj : j < 62) (hk : k < 62) : bitSet (Go.bits .or .i64 d (2 ^ j)) k = (bitSet d k || decide (j = k)) := by
  rw [bitSet_and _ k hk, bitSet_and _ k hk, hasB_or d j k hj hk]
theorem textSpec_at (a : Int) (k : Nat) (hk : k < 9) : ∀ h : k < (textSpec a).size, (((textSpec a)[k]'h).toNat : Int) = if bitSet a k = false then 46 else signL.getD k 0 := by
  intro h
  have hl : signL.getD k 0 = 0 ∨ (0 ≤ signL.getD k 0 ∧ signL.getD k 0 < 256) := by
    have : k = 0 ∨ k = 1 ∨ k = 2 ∨ k = 3 ∨ k = 4 ∨ k = 5 ∨ k = 6 ∨ k = 7 ∨ k = 8 := by omega
    rcases this with rfl | rfl | rfl | rfl | rfl | rfl | rfl | rfl | rfl <;> decide
  have hg : (textSpec a)[k]'h = UInt8.ofNat ((if bitSet a k = false then 46 else signL.getD k 0) : Int).toNat := by
    show (textSpec a).data[k]'h = _
    simp [textSpec, strOfNums, textL, hk]
  rw [hg]
  by_cases hb : bitSet a k = false
  · rw [if_pos hb]
    rfl
  · rw [if_neg hb, UInt8.toNat_ofNat']
    omega
theorem letter_ne (k : Nat) (hk : k < 9) : (signL.getD k 0 != 46) = true ∧ (signL.getD k 0 == 46) = false := by
  have : k = 0 ∨ k = 1 ∨ k = 2 ∨ k = 3 ∨ k = 4 ∨ k = 5 ∨ k = 6 ∨ k = 7 ∨ k = 8 := by omega
  rcases this with rfl | rfl | rfl | rfl | rfl | rfl | rfl | rfl | rfl <;> decide
theorem letter_at (k : Nat) (hk : k < 9) : ∀ h : k < (⟨#[110, 107, 115, 116, 109, 111, 108, 100, 104]⟩ : ByteArray).size, (((⟨#[110, 107, 115, 116, 109, 111, 108, 100, 104]⟩ : ByteArray)[k]'h).toNat : Int) = signL.getD k 0 := by
  intro h
  have : k = 0 ∨ k = 1 ∨ k = 2 ∨ k = 3 ∨ k = 4 ∨ k = 5 ∨ k = 6 ∨ k = 7 ∨ k = 8 := by omega
  rcases this with rfl | rfl | rfl | rfl | rfl | rfl | rfl | rfl | rfl <;> rfl
theorem data_more (d : Int) (j : Nat) (hj : j < 62) (chk so : Bool) (h : dataB d chk so = true) : dataB (Go.bits .or .i64 d (2 ^ j)) chk so = true := by
  have m : ∀ k : Nat, k < 62 → hasB d (2 ^ k) = true → hasB (Go.bits .or .i64 d (2 ^ j)) (2 ^ k) = true := fun k hk hh => by rw [hasB_or d j k hj hk, hh]; rfl
  have m1 := m 0 (by omega)
  have m2 := m 1 (by omega)
  have m4 := m 2 (by omega)
  have m8 := m 3 (by omega)
  have m128 := m 7 (by omega)
  have e1 : (2 : Int) ^ 0 = 1 := by decide
  have e2 : (2 : Int) ^ 1 = 2 := by decide
  have e4 : (2 : Int) ^ 2 = 4 := by decide
  have e8 : (2 : Int) ^ 3 = 8 := by decide
  have e128 : (2 : Int) ^ 7 = 128 := by decide
  rw [e1] at m1
  rw [e2] at m2
  rw [e4] at m4
  rw [e8] at m8
  rw [e128] at m128
  unfold dataB at *
  cases chk <;> cases so <;> simp only [Bool.false_eq_true, if_false, if_true, Bool.or_eq_true] at h ⊢ <;> grind
end Go.Proofs.Ytniedfbchcgaoaa.PA
