/- Plain lemmas on the bits of a number: and with a power of two, or with a power of two. -/
import Derived.Test.YtljpcmpjfklloaaPAx0
namespace Go.Proofs.Ytljpcmpjfklloaa.PA
open Go.RowKit Go.Proofs.YtljpcmpjfklloaaW.PrintWords Go.Proofs.YtljpcmpjfklloaaW.PrintLast Go.Proofs.YtljpcmpjfklloaaW.PrintMore
attribute [local go_sem] max2_int min2_int max_two min_two max_three min_three max_four min_four
set_option linter.unusedVariables false
set_option linter.unusedSimpArgs false
theorem uOf (a : Int) : ((BitVec.ofInt 64 a).toNat : Int) = a % 18446744073709551616 := by
  simp [BitVec.toNat_ofInt]
  omega
theorem wrap_small (n : Nat) (h : n < 9223372036854775808) : IntKind.i64.wrap (n : Int) = n := by
  rw [IntKind.wrap_i64]
  omega
theorem nat_and_pow (u i : Nat) : u &&& 2 ^ i = if u / 2 ^ i % 2 = 1 then 2 ^ i else 0 := by
  apply Nat.eq_of_testBit_eq
  intro j
  rw [Nat.testBit_and, Nat.testBit_two_pow]
  by_cases h : i = j
  · subst h
    rw [Nat.testBit_eq_decide_div_mod_eq]
    by_cases hb : u / 2 ^ i % 2 = 1
    · rw [if_pos hb, Nat.testBit_two_pow_self]
      simp [hb]
    · rw [if_neg hb]
      simp [hb]
  · rw [decide_eq_false h, Bool.and_false]
    split
    · rw [Nat.testBit_two_pow_of_ne h]
    · simp
theorem and_pow (a : Int) (i : Nat) (hi : i < 62) : Go.bits .and .i64 a (2 ^ i) = 2 ^ i * (a / 2 ^ i % 2) := by
  have hp : (2 : Nat) ^ i < 2 ^ 62 := Nat.pow_lt_pow_right (by decide) hi
  have h62 : (2 : Nat) ^ 62 = 4611686018427387904 := by decide
  have hc : ((2 : Int) ^ i) = ((2 ^ i : Nat) : Int) := by simp
  have e2 : (BitVec.ofInt 64 ((2 : Int) ^ i)).toNat = 2 ^ i := by
    rw [hc, BitVec.ofInt_natCast, BitVec.toNat_ofNat]
    exact Nat.mod_eq_of_lt (by omega)
  show IntKind.i64.wrap (((BitVec.ofInt 64 a) &&& (BitVec.ofInt 64 (2 ^ i))).toNat : Int) = _
  rw [BitVec.toNat_and, e2, nat_and_pow]
  have hu := uOf a
  generalize (BitVec.ofInt 64 a).toNat = u at hu ⊢
  have hdiv : ((u : Int) / 2 ^ i) % 2 = (a / 2 ^ i) % 2 := by
    rw [hu]
    have hs : (18446744073709551616 : Int) = 2 ^ i * (2 * 2 ^ (63 - i)) := by
      have : (2 : Int) ^ i * (2 * 2 ^ (63 - i)) = 2 ^ (i + (1 + (63 - i))) := by rw [Int.pow_add, Int.pow_add]; simp
      rw [this]
      have : i + (1 + (63 - i)) = 64 := by omega
      rw [this]
      decide
    have hpos : (0 : Int) < 2 ^ i := Int.pow_pos (by decide)
    have hm := Int.emod_add_mul_ediv a 18446744073709551616
    have hd : a % 18446744073709551616 = a + 2 ^ i * (-(2 * 2 ^ (63 - i) * (a / 18446744073709551616))) := by
      rw [Int.mul_neg, ← Int.mul_assoc, ← hs]
      omega
    rw [hd, Int.add_mul_ediv_left _ _ (Int.ne_of_gt hpos)]
    generalize a / 2 ^ i = x
    rw [Int.mul_assoc]
    generalize 2 ^ (63 - i) * (a / 18446744073709551616) = y
    omega
  have hn : ((u / 2 ^ i % 2 : Nat) : Int) = (u : Int) / 2 ^ i % 2 := by simp
  have hb : u / 2 ^ i % 2 = 0 ∨ u / 2 ^ i % 2 = 1 := by omega
  rcases hb with hb | hb
  · have : (a / 2 ^ i) % 2 = 0 := by rw [← hdiv, ← hn, hb]; rfl
    rw [this, if_neg (by omega), Int.mul_zero]
    exact wrap_small 0 (by omega)
  · have : (a / 2 ^ i) % 2 = 1 := by rw [← hdiv, ← hn, hb]; rfl
    rw [this]
    have hw := wrap_small (2 ^ i) (by omega)
    rw [if_pos hb, hw, hc, Int.mul_one]
theorem and_one (a : Int) : Go.bits .and .i64 a 1 = a % 2 := by
  have := and_pow a 0 (by omega)
  simpa using this
end Go.Proofs.Ytljpcmpjfklloaa.PA
