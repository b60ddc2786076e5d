/- Plain lemmas: the number of a difference as a sum of its bits, masked; Take. -/
import Derived.Test.YtniedfbchcgaoaaPAfmetaTake
import Derived.Test.YtniedfbchcgaoaaPAx0
import Derived.Test.YtniedfbchcgaoaaXNearPure
import Derived.Test.YtniedfbchcgaoaaXmetaCheck
import Derived.Test.YtniedfbchcgaoaaXremoraref21Diff
namespace Go.Proofs.Ytniedfbchcgaoaa.PA
open Go.RowKit Go.Proofs.YtniedfbchcgaoaaW.PrintWords Go.Proofs.YtniedfbchcgaoaaW.PrintLast Go.Proofs.YtniedfbchcgaoaaW.PrintMore
attribute [local go_sem] max2_int min2_int max_two min_two max_three min_three max_four min_four
set_option linter.unusedVariables false
set_option linter.unusedSimpArgs false
def sumB (b1 b2 b3 b4 b5 b6 : Bool) : Int := bitI 16 b5 + bitI 32 b6 + (bitI 4 b1 + bitI 8 b2 + bitI 128 b3 + bitI 64 b4)
theorem sumB_48 (b1 b2 b3 b4 b5 b6 : Bool) : Go.bits .and .i64 (sumB b1 b2 b3 b4 b5 b6) 48 = bitI 16 b5 + bitI 32 b6 := by
  cases b1 <;> cases b2 <;> cases b3 <;> cases b4 <;> cases b5 <;> cases b6 <;> rfl
theorem sumB_8 (b1 b2 b3 b4 b5 b6 : Bool) : Go.bits .and .i64 (sumB b1 b2 b3 b4 b5 b6) 8 = bitI 8 b2 := by
  cases b1 <;> cases b2 <;> cases b3 <;> cases b4 <;> cases b5 <;> cases b6 <;> rfl
theorem sumB_198 (b1 b2 b3 b4 b5 b6 : Bool) : Go.bits .and .i64 (sumB b1 b2 b3 b4 b5 b6) 198 = bitI 4 b1 + bitI 64 b4 + bitI 128 b3 := by
  cases b1 <;> cases b2 <;> cases b3 <;> cases b4 <;> cases b5 <;> cases b6 <;> rfl
theorem rDiff_sum (near : Bool) (k s1 s2 m1 m2 u1 u2 g1 g2 : Int) (t1 t2 c1 c2 : ByteArray) (chk perms times owner : Bool) :
    rDiff near k s1 s2 m1 m2 u1 u2 g1 g2 t1 t2 c1 c2 chk perms times owner = sumB (k == 1 && s1 != s2) ((k == 1 || (times && (k == 2 || k == 3))) && !near) (k == 1 && (chk && !(c1.toList == c2.toList))) (k == 3 && !(t1.toList == t2.toList)) (perms && m1 != m2) (owner && (u1 != u2 || g1 != g2)) := by
  unfold rDiff sumB
  congr 1
  have z4 : bitI 4 false = 0 := rfl
  have z8 : bitI 8 false = 0 := rfl
  have z128 : bitI 128 false = 0 := rfl
  have z64 : bitI 64 false = 0 := rfl
  by_cases k1 : k = 1
  · subst k1
    simp [z64]
  · have e1 : (k == 1) = false := beq_eq_false_iff_ne.mpr k1
    by_cases k2 : k = 2
    · subst k2
      simp [z4, z128, z64]
    · have e2 : (k == 2) = false := beq_eq_false_iff_ne.mpr k2
      by_cases k3 : k = 3
      · subst k3
        simp [z4, z128]
      · have e3 : (k == 3) = false := beq_eq_false_iff_ne.mpr k3
        simp [k1, k2, k3, e1, e2, e3, z4, z8, z128, z64]
theorem take_f (a0_0 : Int) (a0_1 : Int) (a0_2 : Int) (a0_3 : Int) (a0_4 : Int) (a1_0 : Int) (a1_1 : Int) (a1_2 : Int) (a1_3 : Int) (a1_4 : Int) (a2_0 : Int) (a2_1 : Int) (a2_2 : Bool) (a2_3 : Bool) (a2_4 : Bool) (a2_5 : Bool) (a2_6 : Bool) (a2_7 : Bool) (a2_8 : Bool) (a2_9 : Bool) (a2_10 : Bool) (a2_11 : Bool) (a2_12 : Bool) (a2_13 : Bool) (a2_14 : Bool) (a2_15 : Bool) (a2_16 : Bool) (a2_17 : Bool) (a2_18 : Int) (a2_19 : Int) (a2_20 : Int) : meta_Take.f 100 a0_0 a0_1 a0_2 a0_3 a0_4 a1_0 a1_1 a1_2 a1_3 a1_4 a2_0 a2_1 a2_2 a2_3 a2_4 a2_5 a2_6 a2_7 a2_8 a2_9 a2_10 a2_11 a2_12 a2_13 a2_14 a2_15 a2_16 a2_17 a2_18 a2_19 a2_20 = some (if a2_7 = true then a0_0 else a1_0, if a2_8 = true then a0_1 else a1_1, if a2_8 = true then a0_2 else a1_2, if a2_9 = true then a0_3 else a1_3, if a2_9 = true then a0_4 else a1_4) := by
  unfold meta_Take.f
  have hj : ∀ x, meta_Take.j0 100 a0_0 a0_1 a0_2 a0_3 a0_4 x a1_1 a1_2 a1_3 a1_4 a2_0 a2_1 a2_2 a2_3 a2_4 a2_5 a2_6 a2_7 a2_8 a2_9 a2_10 a2_11 a2_12 a2_13 a2_14 a2_15 a2_16 a2_17 a2_18 a2_19 a2_20 = some (x, if a2_8 = true then a0_1 else a1_1, if a2_8 = true then a0_2 else a1_2, if a2_9 = true then a0_3 else a1_3, if a2_9 = true then a0_4 else a1_4) := by
    intro x
    show meta_Take.j0 (99 + 1) _ _ _ _ _ _ _ _ _ _ _ _ _ _ _ _ _ _ _ _ _ _ _ _ _ _ _ _ _ _ _ = _
    simp only [meta_Take.j0]
    cases a2_8 <;> cases a2_9 <;> rfl
  simp only [hj]
  cases a2_7 <;> rfl
theorem nearB_same (a0 a1 a2 a3 a4 b0 b3 b4 win : Int) (h : metaOk a0 a1 a2 a3 a4 = true) (h' : metaOk b0 a1 a2 b3 b4 = true) : nearB a0 a1 a2 a3 a4 b0 a1 a2 b3 b4 win = true := by
  unfold nearB
  rw [h, h', Int.sub_self, Int.sub_self]
  unfold nearD mn mx
  simp
  split <;> split <;> omega
theorem nearD_neg (win s n : Int) : nearD win (-s) (-n) = nearD win s n := by
  unfold nearD
  by_cases h : s < 0 ∨ (s = 0 ∧ n < 0)
  · rw [if_pos h, if_neg (by omega)]
  · by_cases h0 : s = 0 ∧ n = 0
    · rw [h0.1, h0.2]
      rfl
    · rw [if_neg h, if_pos (by omega), Int.neg_neg, Int.neg_neg]
theorem nearB_symm (a0 a1 a2 a3 a4 b0 b1 b2 b3 b4 win : Int) : nearB a0 a1 a2 a3 a4 b0 b1 b2 b3 b4 win = nearB b0 b1 b2 b3 b4 a0 a1 a2 a3 a4 win := by
  unfold nearB
  have h1 : b1 - a1 = -(a1 - b1) := by omega
  have h2 : b2 - a2 = -(a2 - b2) := by omega
  rw [h1, h2, nearD_neg]
  cases metaOk a0 a1 a2 a3 a4 <;> cases metaOk b0 b1 b2 b3 b4 <;> rfl
end Go.Proofs.Ytniedfbchcgaoaa.PA
