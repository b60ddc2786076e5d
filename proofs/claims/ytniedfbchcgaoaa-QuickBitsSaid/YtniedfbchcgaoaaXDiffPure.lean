/- Plain law: the program's and the reference's Diff tell the same of any two entries and options. -/
import Derived.Test.YtniedfbchcgaoaaPAfquickdifferences1
import Derived.Test.YtniedfbchcgaoaaPAfquickdifferences3
import Derived.Test.YtniedfbchcgaoaaPAfquickdifferences4
import Derived.Test.YtniedfbchcgaoaaPAfquickdifferences5
import Derived.Test.YtniedfbchcgaoaaPAfquickdifferences6
import Derived.Test.YtniedfbchcgaoaaPAfquicknear
import Derived.Test.YtniedfbchcgaoaaPAx0
import Derived.Test.YtniedfbchcgaoaaXNearPure
import Derived.Test.YtniedfbchcgaoaaXquickDiff
import Derived.Test.YtniedfbchcgaoaaXquickdifferences2
import Derived.Test.YtniedfbchcgaoaaXremoraref21Diff
namespace Go.Proofs.Ytniedfbchcgaoaa.PA
open Go.RowKit Go.Proofs.YtniedfbchcgaoaaW.PrintWords Go.Proofs.YtniedfbchcgaoaaW.PrintLast Go.Proofs.YtniedfbchcgaoaaW.PrintMore
attribute [local go_sem] max2_int min2_int max_two min_two max_three min_three max_four min_four
set_option linter.unusedVariables false
set_option linter.unusedSimpArgs false
theorem accD_sum (b1 b2 b3 b4 b5 b6 : Bool) : accD b6 (accD b5 (accD b4 (accD b3 (accD b2 (accD b1 0 4) 8) 128) 64) 16) 32 = bitI 16 b5 + bitI 32 b6 + (bitI 4 b1 + bitI 8 b2 + bitI 128 b3 + bitI 64 b4) := by
  cases b1 <;> cases b2 <;> cases b3 <;> cases b4 <;> cases b5 <;> cases b6 <;> rfl
theorem quick_near_f (a0_0 : ByteArray) (a0_1 : Int) (a0_2 : Int) (a0_3 : Int) (a0_4 : Int) (a0_5 : Int) (a0_6 : Int) (a0_7 : Int) (a0_8 : ByteArray) (a0_9 : ByteArray) (a0_10 : Int) (a1_0 : ByteArray) (a1_1 : Int) (a1_2 : Int) (a1_3 : Int) (a1_4 : Int) (a1_5 : Int) (a1_6 : Int) (a1_7 : Int) (a1_8 : ByteArray) (a1_9 : ByteArray) (a1_10 : Int) (a2_0 : Int) (a2_1 : Int) (a2_2 : Bool) (a2_3 : Bool) (a2_4 : Bool) (a2_5 : Bool) (a2_6 : Bool) (a2_7 : Bool) (a2_8 : Bool) (a2_9 : Bool) (a2_10 : Bool) (a2_11 : Bool) (a2_12 : Bool) (a2_13 : Bool) (a2_14 : Bool) (a2_15 : Bool) (a2_16 : Bool) (a2_17 : Bool) (a2_18 : Int) (a2_19 : Int) (a2_20 : Int) : quick_near.f 100 a0_0 a0_1 a0_2 a0_3 a0_4 a0_5 a0_6 a0_7 a0_8 a0_9 a0_10 a1_0 a1_1 a1_2 a1_3 a1_4 a1_5 a1_6 a1_7 a1_8 a1_9 a1_10 a2_0 a2_1 a2_2 a2_3 a2_4 a2_5 a2_6 a2_7 a2_8 a2_9 a2_10 a2_11 a2_12 a2_13 a2_14 a2_15 a2_16 a2_17 a2_18 a2_19 a2_20 = some (nearB a0_3 a0_4 a0_5 a0_6 a0_7 a1_3 a1_4 a1_5 a1_6 a1_7 a2_18) := by
  unfold quick_near.f
  rw [near_progB]
  rfl
def diffD (a0_0 : ByteArray) (a0_1 : Int) (a0_2 : Int) (a0_3 : Int) (a0_4 : Int) (a0_5 : Int) (a0_6 : Int) (a0_7 : Int) (a0_8 : ByteArray) (a0_9 : ByteArray) (a0_10 : Int) (a1_0 : ByteArray) (a1_1 : Int) (a1_2 : Int) (a1_3 : Int) (a1_4 : Int) (a1_5 : Int) (a1_6 : Int) (a1_7 : Int) (a1_8 : ByteArray) (a1_9 : ByteArray) (a1_10 : Int) (a2_0 : Int) (a2_1 : Int) (a2_2 : Bool) (a2_3 : Bool) (a2_4 : Bool) (a2_5 : Bool) (a2_6 : Bool) (a2_7 : Bool) (a2_8 : Bool) (a2_9 : Bool) (a2_10 : Bool) (a2_11 : Bool) (a2_12 : Bool) (a2_13 : Bool) (a2_14 : Bool) (a2_15 : Bool) (a2_16 : Bool) (a2_17 : Bool) (a2_18 : Int) (a2_19 : Int) (a2_20 : Int) : Int := if a0_1 = a1_1 then rDiff (nearB a0_3 a0_4 a0_5 a0_6 a0_7 a1_3 a1_4 a1_5 a1_6 a1_7 a2_18) a0_1 a0_2 a1_2 a0_3 a1_3 a0_6 a1_6 a0_7 a1_7 a0_8 a1_8 a0_9 a1_9 a2_2 a2_7 a2_8 a2_9 else 2
theorem diff_ref (a0_0 : ByteArray) (a0_1 : Int) (a0_2 : Int) (a0_3 : Int) (a0_4 : Int) (a0_5 : Int) (a0_6 : Int) (a0_7 : Int) (a0_8 : ByteArray) (a0_9 : ByteArray) (a0_10 : Int) (a1_0 : ByteArray) (a1_1 : Int) (a1_2 : Int) (a1_3 : Int) (a1_4 : Int) (a1_5 : Int) (a1_6 : Int) (a1_7 : Int) (a1_8 : ByteArray) (a1_9 : ByteArray) (a1_10 : Int) (a2_0 : Int) (a2_1 : Int) (a2_2 : Bool) (a2_3 : Bool) (a2_4 : Bool) (a2_5 : Bool) (a2_6 : Bool) (a2_7 : Bool) (a2_8 : Bool) (a2_9 : Bool) (a2_10 : Bool) (a2_11 : Bool) (a2_12 : Bool) (a2_13 : Bool) (a2_14 : Bool) (a2_15 : Bool) (a2_16 : Bool) (a2_17 : Bool) (a2_18 : Int) (a2_19 : Int) (a2_20 : Int) : remoraref21_Diff.f a0_0 a0_1 a0_2 a0_3 a0_4 a0_5 a0_6 a0_7 a0_8 a0_9 a0_10 a1_0 a1_1 a1_2 a1_3 a1_4 a1_5 a1_6 a1_7 a1_8 a1_9 a1_10 a2_0 a2_1 a2_2 a2_3 a2_4 a2_5 a2_6 a2_7 a2_8 a2_9 a2_10 a2_11 a2_12 a2_13 a2_14 a2_15 a2_16 a2_17 a2_18 a2_19 a2_20 = some (diffD a0_0 a0_1 a0_2 a0_3 a0_4 a0_5 a0_6 a0_7 a0_8 a0_9 a0_10 a1_0 a1_1 a1_2 a1_3 a1_4 a1_5 a1_6 a1_7 a1_8 a1_9 a1_10 a2_0 a2_1 a2_2 a2_3 a2_4 a2_5 a2_6 a2_7 a2_8 a2_9 a2_10 a2_11 a2_12 a2_13 a2_14 a2_15 a2_16 a2_17 a2_18 a2_19 a2_20) := by
  unfold remoraref21_Diff.f diffD
  rw [near_refB 98]
  by_cases h : a0_1 = a1_1
  · rw [if_pos h, if_pos h]
    rfl
  · rw [if_neg h, if_neg h]
theorem diff_prog (a0_0 : ByteArray) (a0_1 : Int) (a0_2 : Int) (a0_3 : Int) (a0_4 : Int) (a0_5 : Int) (a0_6 : Int) (a0_7 : Int) (a0_8 : ByteArray) (a0_9 : ByteArray) (a0_10 : Int) (a1_0 : ByteArray) (a1_1 : Int) (a1_2 : Int) (a1_3 : Int) (a1_4 : Int) (a1_5 : Int) (a1_6 : Int) (a1_7 : Int) (a1_8 : ByteArray) (a1_9 : ByteArray) (a1_10 : Int) (a2_0 : Int) (a2_1 : Int) (a2_2 : Bool) (a2_3 : Bool) (a2_4 : Bool) (a2_5 : Bool) (a2_6 : Bool) (a2_7 : Bool) (a2_8 : Bool) (a2_9 : Bool) (a2_10 : Bool) (a2_11 : Bool) (a2_12 : Bool) (a2_13 : Bool) (a2_14 : Bool) (a2_15 : Bool) (a2_16 : Bool) (a2_17 : Bool) (a2_18 : Int) (a2_19 : Int) (a2_20 : Int) : quick_Diff.f a0_0 a0_1 a0_2 a0_3 a0_4 a0_5 a0_6 a0_7 a0_8 a0_9 a0_10 a1_0 a1_1 a1_2 a1_3 a1_4 a1_5 a1_6 a1_7 a1_8 a1_9 a1_10 a2_0 a2_1 a2_2 a2_3 a2_4 a2_5 a2_6 a2_7 a2_8 a2_9 a2_10 a2_11 a2_12 a2_13 a2_14 a2_15 a2_16 a2_17 a2_18 a2_19 a2_20 = some (diffD a0_0 a0_1 a0_2 a0_3 a0_4 a0_5 a0_6 a0_7 a0_8 a0_9 a0_10 a1_0 a1_1 a1_2 a1_3 a1_4 a1_5 a1_6 a1_7 a1_8 a1_9 a1_10 a2_0 a2_1 a2_2 a2_3 a2_4 a2_5 a2_6 a2_7 a2_8 a2_9 a2_10 a2_11 a2_12 a2_13 a2_14 a2_15 a2_16 a2_17 a2_18 a2_19 a2_20) := by
  unfold quick_Diff.f diffD
  by_cases h : a0_1 = a1_1
  · rw [if_pos h, if_pos h]
    unfold quick_differences_1.f quick_differences_2.f quick_differences_3.f quick_differences_4.f quick_differences_5.f quick_differences_6.f
    simp only [quick_near_f, Option.bind_some]
    generalize nearB a0_3 a0_4 a0_5 a0_6 a0_7 a1_3 a1_4 a1_5 a1_6 a1_7 a2_18 = t
    have e5 : (if a2_7 = true then some (a0_3 != a1_3) else some false) = some (a2_7 && a0_3 != a1_3) := by cases a2_7 <;> rfl
    have e6 : (if a2_9 = true then if a0_6 = a1_6 then some (a0_7 != a1_7) else some true else some false) = some (a2_9 && (a0_6 != a1_6 || a0_7 != a1_7)) := by
      cases a2_9 with
      | false => rfl
      | true =>
        by_cases hu : a0_6 = a1_6
        · simp [hu]
        · have : (a0_6 != a1_6) = true := bne_iff_ne.mpr hu
          simp [hu, this]
    rw [e5, e6]
    clear e5 e6
    have e3 : (if a2_2 = true then some (a0_9.toList != a1_9.toList) else some false) = some (a2_2 && !(a0_9.toList == a1_9.toList)) := by cases a2_2 <;> rfl
    rw [e3]
    clear e3
    unfold rDiff
    generalize (a2_7 && a0_3 != a1_3) = p5
    generalize (a2_9 && (a0_6 != a1_6 || a0_7 != a1_7)) = p6
    generalize (a2_2 && !(a0_9.toList == a1_9.toList)) = p3
    by_cases k1 : a0_1 = 1
    · have k3 : ¬ (a0_1 = 3) := by omega
      simp only [if_pos k1, if_neg k3, Option.bind_some, accD_sum]
      have z : bitI 64 false = 0 := rfl
      rw [z]
      congr 1
      omega
    · by_cases k2 : a0_1 = 2
      · have k3 : ¬ (a0_1 = 3) := by omega
        cases a2_8 with
        | false =>
          simp only [if_neg k1, if_neg k3, Bool.false_eq_true, if_false, Option.bind_some, accD_sum, if_pos k2, Bool.false_and]
          rfl
        | true =>
          simp only [if_neg k1, if_neg k3, if_true, Option.bind_some, accD_sum, if_pos k2, Bool.true_and]
          have z : bitI 64 false = 0 := rfl
          have z1 : bitI 4 false = 0 := rfl
          have z2 : bitI 128 false = 0 := rfl
          rw [z, z1, z2]
          congr 1
          omega
      · by_cases k3 : a0_1 = 3
        · cases a2_8 with
          | false =>
            simp only [if_neg k1, if_neg k2, if_pos k3, Bool.false_eq_true, if_false, Option.bind_some, accD_sum, Bool.false_and]
            have z : bitI 8 false = 0 := rfl
            have z1 : bitI 4 false = 0 := rfl
            have z2 : bitI 128 false = 0 := rfl
            rw [z, z1, z2]
            congr 1
          | true =>
            simp only [if_neg k1, if_neg k2, if_pos k3, if_true, Option.bind_some, accD_sum, Bool.true_and]
            have z1 : bitI 4 false = 0 := rfl
            have z2 : bitI 128 false = 0 := rfl
            rw [z1, z2]
            congr 1
            show _ + _ + (0 + bitI 8 (!t) + 0 + bitI 64 (!(a0_8.toList == a1_8.toList))) = _
            omega
        · cases a2_8 with
          | false =>
            simp only [if_neg k1, if_neg k2, if_neg k3, Bool.false_eq_true, if_false, Option.bind_some, accD_sum]
            rfl
          | true =>
            simp only [if_neg k1, if_neg k2, if_neg k3, if_true, Option.bind_some, accD_sum]
            rfl
  · rw [if_neg h, if_neg h]
end Go.Proofs.Ytniedfbchcgaoaa.PA
