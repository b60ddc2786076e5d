/- Plain: the chapter's examples, and 'light'. -/
import Derived.Test.YtljpcmpjfklloaaPAfremoralaw28awake
import Derived.Test.YtljpcmpjfklloaaPAfremoralaw28light
import Derived.Test.YtljpcmpjfklloaaPAx0
import Derived.Test.YtljpcmpjfklloaaXitemLine
import Derived.Test.YtljpcmpjfklloaaXitemcheck
namespace Go.Proofs.Ytljpcmpjfklloaa.PA
open Go.RowKit Go.Proofs.YtljpcmpjfklloaaW.PrintWords Go.Proofs.YtljpcmpjfklloaaW.PrintLast Go.Proofs.YtljpcmpjfklloaaW.PrintMore
attribute [local go_sem] max2_int min2_int max_two min_two max_three min_three max_four min_four
set_option linter.unusedVariables false
set_option linter.unusedSimpArgs false
theorem awake_f28 : remoralaw28_awake.f = some true := by kernel_rfl
theorem light_f (a0_0 : Int) (a0_1 : ByteArray) (a0_2 : ByteArray) (a0_3 : ByteArray) (a0_4 : Int) (a0_5 : Int) (a0_6 : Int) (a0_7 : Int) (a0_8 : Int) (a0_9 : Int) (a0_10 : Int) (a0_11 : ByteArray) (a0_12 : ByteArray) (a0_13 : Int) (a0_14 : Int) : remoralaw28_light.f a0_0 a0_1 a0_2 a0_3 a0_4 a0_5 a0_6 a0_7 a0_8 a0_9 a0_10 a0_11 a0_12 a0_13 a0_14 = some (decide ((a0_1.size : Int) ≤ 1000) && decide ((a0_2.size : Int) ≤ 1000)) := by
  unfold remoralaw28_light.f
  by_cases h : (a0_1.size : Int) ≤ 1000
  · rw [if_pos h, decide_eq_true h]
    rfl
  · rw [if_neg h, decide_eq_false h]
    rfl
theorem line_f (a0_0 : Int) (a0_1 : ByteArray) (a0_2 : ByteArray) (a0_3 : ByteArray) (a0_4 : Int) (a0_5 : Int) (a0_6 : Int) (a0_7 : Int) (a0_8 : Int) (a0_9 : Int) (a0_10 : Int) (a0_11 : ByteArray) (a0_12 : ByteArray) (a0_13 : Int) (a0_14 : Int) (h1 : (a0_1.size : Int) ≤ 1000) (h2 : (a0_2.size : Int) ≤ 1000) : item_Line.f a0_0 a0_1 a0_2 a0_3 a0_4 a0_5 a0_6 a0_7 a0_8 a0_9 a0_10 a0_11 a0_12 a0_13 a0_14 = some (if checkI a0_0 a0_1 a0_2 a0_4 a0_14 = 0 then (lineB a0_0 a0_1 a0_2 a0_4 a0_14, 0) else ((⟨#[]⟩ : ByteArray), checkI a0_0 a0_1 a0_2 a0_4 a0_14)) := by
  unfold item_Line.f
  rw [if_pos (by omega)]
  split <;> rfl
end Go.Proofs.Ytljpcmpjfklloaa.PA
