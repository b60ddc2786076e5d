/- QuickTurned: for any two entries, options, text and number the law returns true and leaves its arguments as they were. No condition. -/
import Derived.Test.YtniedfbchcgaoaaPAfmetaNear
import Derived.Test.YtniedfbchcgaoaaPAfremoraref16Check
import Derived.Test.YtniedfbchcgaoaaPAfremoraref16Near
import Derived.Test.YtniedfbchcgaoaaPAfremoraref16in
import Derived.Test.YtniedfbchcgaoaaPAx0
import Derived.Test.YtniedfbchcgaoaaXmetaCheck
import Derived.Test.YtniedfbchcgaoaaPAfmetaTake
import Derived.Test.YtniedfbchcgaoaaXremoraref21Diff
import Derived.Deep.WholeRow
import Derived.Test.YtniedfbchcgaoaaXB3
import Derived.Test.YtniedfbchcgaoaaXRowLoad
import Derived.Test.YtniedfbchcgaoaaPAfquickdifferences1
import Derived.Test.YtniedfbchcgaoaaPAfquickdifferences3
import Derived.Test.YtniedfbchcgaoaaPAfquickdifferences4
import Derived.Test.YtniedfbchcgaoaaPAfquickdifferences5
import Derived.Test.YtniedfbchcgaoaaPAfquickdifferences6
import Derived.Test.YtniedfbchcgaoaaPAfquicknear
import Derived.Test.YtniedfbchcgaoaaXquickDiff
import Derived.Test.YtniedfbchcgaoaaXquickdifferences2
import Derived.Test.YtniedfbchcgaoaaPAfquickData
import Derived.Test.YtniedfbchcgaoaaPAfquicklater
import Derived.Test.YtniedfbchcgaoaaPAfremoraref21Data
import Derived.Test.YtniedfbchcgaoaaPAfremoraref21Skips
import Derived.Test.YtniedfbchcgaoaaPAfremoraref21Text
import Derived.Test.YtniedfbchcgaoaaPAfremoraref21has
import Derived.Test.YtniedfbchcgaoaaPAfremoraref21later
import Derived.Test.YtniedfbchcgaoaaXquickSkips
import Derived.Test.YtniedfbchcgaoaaXquickText
import Derived.Below
import Derived.Carry
import Derived.ChangeOld
import Derived.OpenShut
import Derived.ProofKit
import Derived.ShutString
import Derived.SizedLaws
import Derived.Test.YtniedfbchcgaoaaRows
import Derived.Test.YtniedfbchcgaoaaXOpn
import Derived.Test.YtniedfbchcgaoaaXremoralaw21awake
import Derived.WalkKit
/-! ### YtniedfbchcgaoaaXNearPure -/
namespace Go.Proofs.Ytniedfbchcgaoaa.PA
open Go.RowKit Go.Proofs.YtniedfbchcgaoaaW.PrintWords Go.Proofs.YtniedfbchcgaoaaW.PrintLast Go.Proofs.YtniedfbchcgaoaaW.PrintMore
attribute [local go_sem] max2_int min2_int max_two min_two max_three min_three max_four min_four
set_option linter.unusedVariables false
set_option linter.unusedSimpArgs false
theorem w64 {x : Int} (h1 : -9223372036854775808 ≤ x) (h2 : x ≤ 9223372036854775807) : wrap64 x = x := by
  unfold wrap64
  omega
theorem refIn_f (a lo hi : Int) : remoraref16_in.f a lo hi = some (metaIn a lo hi) := by
  unfold remoraref16_in.f metaIn
  by_cases h : a ≥ lo
  · rw [if_pos h]
    have : decide (lo ≤ a) = true := decide_eq_true h
    simp [this]
  · rw [if_neg h]
    have : decide (lo ≤ a) = false := decide_eq_false h
    simp [this]
theorem refCheck_f (a b c d e : Int) : remoraref16_Check.f a b c d e = some (if metaOk a b c d e = true then 0 else 2) := by
  unfold remoraref16_Check.f metaOk
  simp only [refIn_f, Option.bind_some]
  cases metaIn a 0 4095 <;> cases metaIn b (-1099511627776) 1099511627776 <;> cases metaIn c 0 999999999 <;> cases metaIn d 0 2147483647 <;> cases metaIn e 0 2147483647 <;> rfl
theorem metaOk_bd {a b c d e : Int} (h : metaOk a b c d e = true) : (0 ≤ a ∧ a ≤ 4095) ∧ (-1099511627776 ≤ b ∧ b ≤ 1099511627776) ∧ (0 ≤ c ∧ c ≤ 999999999) ∧ (0 ≤ d ∧ d ≤ 2147483647) ∧ (0 ≤ e ∧ e ≤ 2147483647) := by
  unfold metaOk metaIn at h
  simp only [Bool.and_eq_true, decide_eq_true_eq] at h
  omega
def nearD (win s n : Int) : Bool := if s < 0 ∨ (s = 0 ∧ n < 0) then (decide (-s < win) || (decide (-s = win) && decide (-n ≤ 0))) else (decide (s < win) || (decide (s = win) && decide (n ≤ 0)))
theorem near_prog (k : Nat) (x2 a0 a1 a2 a3 a4 b0 b1 b2 b3 b4 : Int) (ha : -1099511627776 ≤ a1 ∧ a1 ≤ 1099511627776) (ha2 : 0 ≤ a2 ∧ a2 ≤ 999999999) (hb : -1099511627776 ≤ b1 ∧ b1 ≤ 1099511627776) (hb2 : 0 ≤ b2 ∧ b2 ≤ 999999999) :
    meta_Near.j0 (k + 1) x2 false a0 a1 a2 a3 a4 b0 b1 b2 b3 b4 = some (nearD (mn (mx x2 0) 2147483647) (a1 - b1) (a2 - b2)) := by
  simp only [meta_Near.j0, Bool.false_eq_true, if_false]
  rw [w64 (x := a1 - b1) (by omega) (by omega), w64 (x := a2 - b2) (by omega) (by omega), w64 (x := -(a1 - b1)) (by omega) (by omega), w64 (x := -(a2 - b2)) (by omega) (by omega)]
  generalize hs : a1 - b1 = s
  generalize hn : a2 - b2 = n
  generalize mn (mx x2 0) 2147483647 = win
  unfold nearD
  by_cases c1 : s < 0
  · rw [if_pos c1, if_pos (Or.inl c1)]
    by_cases c2 : -s < win
    · simp [c2]
    · by_cases c3 : -s = win <;> simp [c2, c3]
  · rw [if_neg c1]
    by_cases c2 : s = 0
    · rw [if_pos c2]
      by_cases c3 : n < 0
      · rw [if_pos c3, if_pos (Or.inr ⟨c2, c3⟩)]
        by_cases c4 : -s < win
        · simp [c4]
        · by_cases c5 : -s = win <;> simp [c4, c5]
      · have hc : ¬ (s < 0 ∨ (s = 0 ∧ n < 0)) := by omega
        rw [if_neg c3, if_neg hc]
        by_cases c4 : s < win
        · simp [c4]
        · by_cases c5 : s = win <;> simp [c4, c5]
    · have hc : ¬ (s < 0 ∨ (s = 0 ∧ n < 0)) := by omega
      rw [if_neg c2, if_neg hc]
      by_cases c4 : s < win
      · simp [c4]
      · by_cases c5 : s = win <;> simp [c4, c5]
theorem near_j1 (k : Nat) (win s n : Int) (b : Bool) (hs : -2199023255552 ≤ s ∧ s ≤ 2199023255552) (hn : -999999999 ≤ n ∧ n ≤ 999999999) (hb : b = decide (s < 0 ∨ (s = 0 ∧ n < 0))) :
    remoraref16_Near.j1 (k + 1) win s n b = some (nearD win s n) := by
  simp only [remoraref16_Near.j1]
  rw [w64 (x := -n) (by omega) (by omega), w64 (x := -s) (by omega) (by omega), w64 (x := -s - 1) (by omega) (by omega), w64 (x := -n + 1000000000) (by omega) (by omega), w64 (x := s - 1) (by omega) (by omega), w64 (x := n + 1000000000) (by omega) (by omega)]
  unfold nearD
  by_cases c : s < 0 ∨ (s = 0 ∧ n < 0)
  · rw [hb, decide_eq_true c, if_pos rfl, if_pos c]
    by_cases c1 : -n < 0
    · rw [if_pos c1]
      by_cases c2 : -s - 1 < win
      · rw [if_pos c2]
        by_cases c3 : -s < win
        · simp [c3]
        · have : -s = win := by omega
          simp [this]
          omega
      · rw [if_neg c2]
        have h3 : ¬ (-s < win) := by omega
        have h4 : ¬ (-s = win) := by omega
        by_cases c3 : -s - 1 = win
        · rw [if_pos c3]
          have : ¬ (-n + 1000000000 = 0) := by omega
          simp [h3, h4]
          omega
        · simp [c3, h3, h4]
    · rw [if_neg c1]
      by_cases c2 : -s < win
      · simp [c2]
      · by_cases c3 : -s = win
        · have hw : ¬ win < win := by omega
          simp [c3]
          by_cases c4 : n = 0
          · simp [c4]
          · have : ¬ (0 ≤ n) := by omega
            simp [c4, this]
        · simp [c2, c3]
  · rw [hb, decide_eq_false c, if_neg (by simp), if_neg c]
    by_cases c1 : n < 0
    · rw [if_pos c1]
      by_cases c2 : s - 1 < win
      · rw [if_pos c2]
        by_cases c3 : s < win
        · simp [c3]
        · have : s = win := by omega
          simp [this]
          omega
      · rw [if_neg c2]
        have h3 : ¬ (s < win) := by omega
        have h4 : ¬ (s = win) := by omega
        by_cases c3 : s - 1 = win
        · rw [if_pos c3]
          simp [h3, h4]
          omega
        · simp [c3, h3, h4]
    · rw [if_neg c1]
      by_cases c2 : s < win
      · simp [c2]
      · by_cases c3 : s = win
        · simp [c3]
          by_cases c4 : n = 0
          · simp [c4]
          · have : ¬ (n ≤ 0) := by omega
            simp [c4, this]
        · simp [c2, c3]
theorem near_ref (k : Nat) (x2 a0 a1 a2 a3 a4 b0 b1 b2 b3 b4 : Int) (ha : -1099511627776 ≤ a1 ∧ a1 ≤ 1099511627776) (ha2 : 0 ≤ a2 ∧ a2 ≤ 999999999) (hb : -1099511627776 ≤ b1 ∧ b1 ≤ 1099511627776) (hb2 : 0 ≤ b2 ∧ b2 ≤ 999999999) :
    remoraref16_Near.j0 (k + 1 + 1) x2 false a0 a1 a2 a3 a4 b0 b1 b2 b3 b4 = some (nearD (mn (mx x2 0) 2147483647) (a1 - b1) (a2 - b2)) := by
  simp only [remoraref16_Near.j0, Bool.false_eq_true, if_false]
  rw [w64 (x := a1 - b1) (by omega) (by omega), w64 (x := a2 - b2) (by omega) (by omega)]
  by_cases c1 : a1 - b1 < 0
  · rw [if_pos c1]
    exact near_j1 k _ _ _ true (by omega) (by omega) (by simp [c1])
  · rw [if_neg c1]
    by_cases c2 : a1 - b1 = 0
    · rw [if_pos c2]
      refine near_j1 k _ _ _ _ (by omega) (by omega) ?_
      simp [c2]
    · rw [if_neg c2]
      refine near_j1 k _ _ _ false (by omega) (by omega) ?_
      simp [c1, c2]
def nearB (a0 a1 a2 a3 a4 b0 b1 b2 b3 b4 win : Int) : Bool := metaOk a0 a1 a2 a3 a4 && (metaOk b0 b1 b2 b3 b4 && nearD (mn (mx win 0) 2147483647) (a1 - b1) (a2 - b2))
theorem near_progB (a0 a1 a2 a3 a4 b0 b1 b2 b3 b4 win : Int) : meta_Near.f 100 a0 a1 a2 a3 a4 b0 b1 b2 b3 b4 win = some (nearB a0 a1 a2 a3 a4 b0 b1 b2 b3 b4 win) := by
  unfold meta_Near.f meta_Check.f nearB
  simp only [Option.bind_some]
  cases h1 : metaOk a0 a1 a2 a3 a4 with
  | false => rfl
  | true =>
    cases h2 : metaOk b0 b1 b2 b3 b4 with
    | false => rfl
    | true =>
      have q1 := metaOk_bd h1
      have q2 := metaOk_bd h2
      exact near_prog 99 win a0 a1 a2 a3 a4 b0 b1 b2 b3 b4 q1.2.1 q1.2.2.1 q2.2.1 q2.2.2.1
theorem near_refB (k : Nat) (a0 a1 a2 a3 a4 b0 b1 b2 b3 b4 win : Int) : remoraref16_Near.f (k + 1 + 1) a0 a1 a2 a3 a4 b0 b1 b2 b3 b4 win = some (nearB a0 a1 a2 a3 a4 b0 b1 b2 b3 b4 win) := by
  unfold remoraref16_Near.f nearB
  simp only [refCheck_f, Option.bind_some]
  cases h1 : metaOk a0 a1 a2 a3 a4 with
  | false => rfl
  | true =>
    cases h2 : metaOk b0 b1 b2 b3 b4 with
    | false => rfl
    | true =>
      have q1 := metaOk_bd h1
      have q2 := metaOk_bd h2
      exact near_ref k win a0 a1 a2 a3 a4 b0 b1 b2 b3 b4 q1.2.1 q1.2.2.1 q2.2.1 q2.2.2.1
end Go.Proofs.Ytniedfbchcgaoaa.PA
/-! ### YtniedfbchcgaoaaXSumPure -/
namespace Go.Proofs.Ytniedfbchcgaoaa.PA
open Go.RowKit Go.Proofs.YtniedfbchcgaoaaW.PrintWords Go.Proofs.YtniedfbchcgaoaaW.PrintLast Go.Proofs.YtniedfbchcgaoaaW.PrintMore
attribute [local go_sem] max2_int min2_int max_two min_two max_three min_three max_four min_four
set_option linter.unusedVariables false
set_option linter.unusedSimpArgs false
def sumB (b1 b2 b3 b4 b5 b6 : Bool) : Int := bitI 16 b5 + bitI 32 b6 + (bitI 4 b1 + bitI 8 b2 + bitI 128 b3 + bitI 64 b4)
theorem sumB_48 (b1 b2 b3 b4 b5 b6 : Bool) : Go.bits .and .i64 (sumB b1 b2 b3 b4 b5 b6) 48 = bitI 16 b5 + bitI 32 b6 := by
  cases b1 <;> cases b2 <;> cases b3 <;> cases b4 <;> cases b5 <;> cases b6 <;> rfl
theorem sumB_8 (b1 b2 b3 b4 b5 b6 : Bool) : Go.bits .and .i64 (sumB b1 b2 b3 b4 b5 b6) 8 = bitI 8 b2 := by
  cases b1 <;> cases b2 <;> cases b3 <;> cases b4 <;> cases b5 <;> cases b6 <;> rfl
theorem sumB_198 (b1 b2 b3 b4 b5 b6 : Bool) : Go.bits .and .i64 (sumB b1 b2 b3 b4 b5 b6) 198 = bitI 4 b1 + bitI 64 b4 + bitI 128 b3 := by
  cases b1 <;> cases b2 <;> cases b3 <;> cases b4 <;> cases b5 <;> cases b6 <;> rfl
theorem rDiff_sum (near : Bool) (k s1 s2 m1 m2 u1 u2 g1 g2 : Int) (t1 t2 c1 c2 : ByteArray) (chk perms times owner : Bool) :
    rDiff near k s1 s2 m1 m2 u1 u2 g1 g2 t1 t2 c1 c2 chk perms times owner = sumB (k == 1 && s1 != s2) ((k == 1 || (times && (k == 2 || k == 3))) && !near) (k == 1 && (chk && !(c1.toList == c2.toList))) (k == 3 && !(t1.toList == t2.toList)) (perms && m1 != m2) (owner && (u1 != u2 || g1 != g2)) := by
  unfold rDiff sumB
  congr 1
  have z4 : bitI 4 false = 0 := rfl
  have z8 : bitI 8 false = 0 := rfl
  have z128 : bitI 128 false = 0 := rfl
  have z64 : bitI 64 false = 0 := rfl
  by_cases k1 : k = 1
  · subst k1
    simp [z64]
  · have e1 : (k == 1) = false := beq_eq_false_iff_ne.mpr k1
    by_cases k2 : k = 2
    · subst k2
      simp [z4, z128, z64]
    · have e2 : (k == 2) = false := beq_eq_false_iff_ne.mpr k2
      by_cases k3 : k = 3
      · subst k3
        simp [z4, z128]
      · have e3 : (k == 3) = false := beq_eq_false_iff_ne.mpr k3
        simp [k1, k2, k3, e1, e2, e3, z4, z8, z128, z64]
theorem take_f (a0_0 : Int) (a0_1 : Int) (a0_2 : Int) (a0_3 : Int) (a0_4 : Int) (a1_0 : Int) (a1_1 : Int) (a1_2 : Int) (a1_3 : Int) (a1_4 : Int) (a2_0 : Int) (a2_1 : Int) (a2_2 : Bool) (a2_3 : Bool) (a2_4 : Bool) (a2_5 : Bool) (a2_6 : Bool) (a2_7 : Bool) (a2_8 : Bool) (a2_9 : Bool) (a2_10 : Bool) (a2_11 : Bool) (a2_12 : Bool) (a2_13 : Bool) (a2_14 : Bool) (a2_15 : Bool) (a2_16 : Bool) (a2_17 : Bool) (a2_18 : Int) (a2_19 : Int) (a2_20 : Int) : meta_Take.f 100 a0_0 a0_1 a0_2 a0_3 a0_4 a1_0 a1_1 a1_2 a1_3 a1_4 a2_0 a2_1 a2_2 a2_3 a2_4 a2_5 a2_6 a2_7 a2_8 a2_9 a2_10 a2_11 a2_12 a2_13 a2_14 a2_15 a2_16 a2_17 a2_18 a2_19 a2_20 = some (if a2_7 = true then a0_0 else a1_0, if a2_8 = true then a0_1 else a1_1, if a2_8 = true then a0_2 else a1_2, if a2_9 = true then a0_3 else a1_3, if a2_9 = true then a0_4 else a1_4) := by
  unfold meta_Take.f
  have hj : ∀ x, meta_Take.j0 100 a0_0 a0_1 a0_2 a0_3 a0_4 x a1_1 a1_2 a1_3 a1_4 a2_0 a2_1 a2_2 a2_3 a2_4 a2_5 a2_6 a2_7 a2_8 a2_9 a2_10 a2_11 a2_12 a2_13 a2_14 a2_15 a2_16 a2_17 a2_18 a2_19 a2_20 = some (x, if a2_8 = true then a0_1 else a1_1, if a2_8 = true then a0_2 else a1_2, if a2_9 = true then a0_3 else a1_3, if a2_9 = true then a0_4 else a1_4) := by
    intro x
    show meta_Take.j0 (99 + 1) _ _ _ _ _ _ _ _ _ _ _ _ _ _ _ _ _ _ _ _ _ _ _ _ _ _ _ _ _ _ _ = _
    simp only [meta_Take.j0]
    cases a2_8 <;> cases a2_9 <;> rfl
  simp only [hj]
  cases a2_7 <;> rfl
theorem nearB_same (a0 a1 a2 a3 a4 b0 b3 b4 win : Int) (h : metaOk a0 a1 a2 a3 a4 = true) (h' : metaOk b0 a1 a2 b3 b4 = true) : nearB a0 a1 a2 a3 a4 b0 a1 a2 b3 b4 win = true := by
  unfold nearB
  rw [h, h', Int.sub_self, Int.sub_self]
  unfold nearD mn mx
  simp
  split <;> split <;> omega
theorem nearD_neg (win s n : Int) : nearD win (-s) (-n) = nearD win s n := by
  unfold nearD
  by_cases h : s < 0 ∨ (s = 0 ∧ n < 0)
  · rw [if_pos h, if_neg (by omega)]
  · by_cases h0 : s = 0 ∧ n = 0
    · rw [h0.1, h0.2]
      rfl
    · rw [if_neg h, if_pos (by omega), Int.neg_neg, Int.neg_neg]
theorem nearB_symm (a0 a1 a2 a3 a4 b0 b1 b2 b3 b4 win : Int) : nearB a0 a1 a2 a3 a4 b0 b1 b2 b3 b4 win = nearB b0 b1 b2 b3 b4 a0 a1 a2 a3 a4 win := by
  unfold nearB
  have h1 : b1 - a1 = -(a1 - b1) := by omega
  have h2 : b2 - a2 = -(a2 - b2) := by omega
  rw [h1, h2, nearD_neg]
  cases metaOk a0 a1 a2 a3 a4 <;> cases metaOk b0 b1 b2 b3 b4 <;> rfl
end Go.Proofs.Ytniedfbchcgaoaa.PA
/-! ### YtniedfbchcgaoaaXQuickTurnedW -/
namespace Go.Proofs.Ytniedfbchcgaoaa.PA
open Go.RowKit Go.Proofs.YtniedfbchcgaoaaW.PrintWords Go.Proofs.YtniedfbchcgaoaaW.PrintLast Go.Proofs.YtniedfbchcgaoaaW.PrintMore
attribute [local go_sem] max2_int min2_int max_two min_two max_three min_three max_four min_four
set_option linter.unusedVariables false
set_option linter.unusedSimpArgs false
def B4 (e o : Nat) (w0 wr : World) (S D O : Array Value) (gx : Nat) (X : Array Value) : Prop := B3 e e o w0 wr S D O ∧ wr.heap[gx]? = some (.cells X e (0, 0))
theorem B4.step {e o : Nat} {w0 wr w2 : World} {S D O X : Array Value} {gx : Nat} (h : B4 e o w0 wr S D O gx X) (hb : Below wr.heap.size wr w2) : B4 e o w0 w2 S D O gx X := ⟨B3.step h.1 hb, blk_below h.2 hb⟩
def remoralaw21_QuickTurned_h.T11 : Bool × List (List Nat × List Nat) := (true, [([], []), ([], []), ([], []), ([0, 1, 2], [0, 1, 2]), ([], []), ([3, 4], [3, 4]), ([5, 3], [5]), ([6], [6]), ([6], [6]), ([6], [6]), ([7, 8, 9, 6, 6], [6, 7, 8, 9]), ([6], [6]), ([6], [6]), ([6], [6]), ([11, 12, 13, 10, 6], [6, 11, 12, 13]), ([10, 14, 6], [6, 10, 14]), ([6, 15], [6, 15]), ([16, 14], [16]), ([17, 17], [17]), ([17, 18], [17, 18]), ([19, 18, 0, 1, 2, 3, 4, 5, 6, 7, 8, 9, 10, 11, 12, 13, 14, 15, 16, 17, 18, 19], [19])])
def remoralaw21_QuickTurned_h.B11 : List Nat := [0, 0, 0, 7, 0, 31, 63, 127, 127, 127, 1023, 127, 127, 127, 16383, 32767, 65535, 131071, 262143, 524287, 1048575]
theorem remoralaw21_QuickTurned_h.tab11 : rtab .any (opsOf Try.f7 11) = remoralaw21_QuickTurned_h.T11 := by kernel_rfl
theorem remoralaw21_QuickTurned_h.bits11 : waitsOk remoralaw21_QuickTurned_h.T11.2 remoralaw21_QuickTurned_h.B11 = true := by kernel_rfl
set_option maxHeartbeats 4000000 in
set_option maxRecDepth 100000 in
theorem quickTurned_f (S D O X : Array Value) (hS : S.size = 11) (hD : D.size = 11) (hD1c : Aside0 (D.all (·.oneCell') = true)) (hO : O.size = 21) (p : ByteArray) (n d kb : Int) (b : Bool) (hX : X = (((D.setIfInBounds 0 (.string p)).setIfInBounds 10 (.int .i64 n)).setIfInBounds 8 (.string p))) (hD1 : D[1]'(by omega) = .int .i64 kb) (hkb : (kb == 1) = true)
    (h1 : Aside0 (∀ w, Calls Try.prog 10 #[.agg S, .agg D, .agg O] w fun e w' => e = .returned (.int .i64 d) ∧ Below w.heap.size w w'))
    (h2 : Aside0 (∀ w, Calls Try.prog 10 #[.agg D, .agg S, .agg O] w fun e w' => e = .returned (.int .i64 d) ∧ Below w.heap.size w w'))
    (h3 : Aside0 (∀ w, Calls Try.prog 10 #[.agg S, .agg X, .agg O] w fun e w' => e = .returned (.int .i64 d) ∧ Below w.heap.size w w'))
    (h4 : Aside0 (∀ w, Calls Try.prog 17 #[.agg S, .agg X, .bool true, .agg O] w fun e w' => e = .returned (.bool b) ∧ Below w.heap.size w w'))
    (h5 : Aside0 (∀ w, Calls Try.prog 17 #[.agg S, .agg D, .bool true, .agg O] w fun e w' => e = .returned (.bool b) ∧ Below w.heap.size w w'))
    (h6 : Aside0 (∀ w, Calls Try.prog 12 #[] w fun e w' => e = .returned (.bool true) ∧ Below w.heap.size w w')) (w : World) :
    Calls Try.prog 7 #[.agg S, .agg D, .agg O, .string p, .int .i64 n] w fun e w' => e = .returned (.bool true) ∧ Below w.heap.size w w' := by
  have hu1 := Try.underlying25
  have hu2 := Try.underlying27
  have i1 := Aside0.mk (show (Try.prog.info? 25).map (·.size) = some S.size by rw [hS]; kernel_rfl)
  have i2 := Aside0.mk (show (Try.prog.info? 25).map (·.size) = some D.size by rw [hD]; kernel_rfl)
  have i3 := Aside0.mk (show (Try.prog.info? 27).map (·.size) = some O.size by rw [hO]; kernel_rfl)
  have i4 := Aside0.mk (show (Try.prog.info? 25).map (·.size) = some X.size by rw [hX]; simp only [Array.size_setIfInBounds, hD]; kernel_rfl)
  have HX := Aside0.mk hX
  clear hX
  have HD := Aside0.mk (B3.start 25 25 27 w S D O)
  go_enter Try.func7, Try.ntmps7
  go_wp2_with (first | ((with_reducible refine gate_dst (N := 13) rfl ?_); refine wpList_load_row rfl 25 (.tmp 5) rfl (w.heap.size) rfl 25 S (0, 0) _ HD.out.2.1 hu1 rfl i1.out ?_) | ((with_reducible refine gate_dst (N := 14) rfl ?_); refine wpList_load_row rfl 25 (.tmp 6) rfl (w.heap.size + 1) rfl 25 D (0, 0) _ HD.out.2.2.1 hu1 rfl i2.out ?_) | ((with_reducible refine gate_dst (N := 15) rfl ?_); refine wpList_load_row rfl 27 (.tmp 7) rfl (w.heap.size + 1 + 1) rfl 27 O (0, 0) _ HD.out.2.2.2 hu2 rfl i3.out ?_))
  refine (h1.out _).mono ?_
  rintro e w1 ⟨rfl, hb⟩
  have HB1 := Aside0.mk (B3.step HD.out hb)
  clear HD hb
  have HD := HB1
  clear HB1
  go_wp2_with (first | ((with_reducible refine gate_dst (N := 18) rfl ?_); refine wpList_load_row rfl 25 (.tmp 6) rfl (w.heap.size + 1) rfl 25 D (0, 0) _ HD.out.2.2.1 hu1 rfl i2.out ?_) | ((with_reducible refine gate_dst (N := 19) rfl ?_); refine wpList_load_row rfl 25 (.tmp 5) rfl (w.heap.size) rfl 25 S (0, 0) _ HD.out.2.1 hu1 rfl i1.out ?_) | ((with_reducible refine gate_dst (N := 20) rfl ?_); refine wpList_load_row rfl 27 (.tmp 7) rfl (w.heap.size + 1 + 1) rfl 27 O (0, 0) _ HD.out.2.2.2 hu2 rfl i3.out ?_))
  refine (h2.out _).mono ?_
  rintro e w1 ⟨rfl, hb⟩
  have HB1 := Aside0.mk (B3.step HD.out hb)
  clear HD hb
  have HD := HB1
  clear HB1
  have hcD : ∀ o, (w1.alloc o).cell? ⟨w.heap.size + 1, 1, none⟩ = some (.int .i64 kb) := fun o => (blk_cell (blk_alloc HD.out.2.2.1 o) 1).trans ((Array.getElem?_eq_getElem (by omega)).trans (congrArg some hD1))
  have hst := run_storeCells_new (P := Try.prog) w1 25 #[.string ⟨#[]⟩, .int .i64 0, .int .i64 0, .int .i64 0, .int .i64 0, .int .i64 0, .int .i64 0, .int .i64 0, .string ⟨#[]⟩, .string ⟨#[]⟩, .int .i64 0] D i2.out hD.symm hD1c.out
  go_wp2_with (first | ((with_reducible refine gate_dst (N := 23) rfl ?_); refine wpList_load_row rfl 25 (.tmp 6) rfl (w.heap.size + 1) rfl 25 D (0, 0) _ HD.out.2.2.1 hu1 rfl i2.out ?_))
  rw [← HX.out]
  have HD4 : Aside0 (B4 25 27 w ((w1.alloc (.cells X 25)).drew) S D O w1.heap.size X) := ⟨⟨B3.step HD.out (below_drew1 (below_alloc (Below.refl _ _) _)), blk_drew (blk_new _ _)⟩⟩
  clear HD hst hcD
  have HD := HD4
  clear HD4
  obtain ⟨gx, hgx⟩ : ∃ gx, gx = w1.heap.size := ⟨_, rfl⟩
  rw [← hgx] at HD ⊢
  clear hgx
  refine start_ (n := 21) (S := fun w' => w'.heap[w.heap.size]? = some (.cells S 25 (0, 0)) ∧ w'.heap[w.heap.size + 1]? = some (.cells D 25 (0, 0)) ∧ w'.heap[w.heap.size + 1 + 1]? = some (.cells O 27 (0, 0)) ∧ w'.heap[gx]? = some (.cells X 25 (0, 0))) (ds := []) #[false, false, false, false, false, false, false, false, false, false, false, false, false, false, false, false, false, false, false, false, false] (by kernel_rfl) rfl rfl ⟨HD.out.1.2.1, HD.out.1.2.2.1, HD.out.1.2.2.2, HD.out.2⟩ (fun hHeld => ?_)
  refine with_tabW remoralaw21_QuickTurned_h.tab11 remoralaw21_QuickTurned_h.bits11 (fun HT_ HW_ => ?_)
  refine take_ (i := 0) (N := some 37) (v := .agg S) (a' := ?_) #[true, false, false, false, false, false, false, false, false, false, false, false, false, false, false, false, false, false, false, false, false] rfl rfl (take_ofW HT_.out HW_.out (by kernel_rfl)) (fun _ _ _ h => h) (Or.inl ⟨by rfl, ?_⟩) hHeld ?_ ?_
  · intro w' hs_
    exact exec_load_row 25 (.tmp 5) rfl (w.heap.size) rfl 25 S (0, 0) _ hs_.1 hu1 rfl i1.out
  rotate_left
  · simp only [Act.put, List.setIfInBounds_toArray, List.set_cons_zero, List.set_cons_succ, i64_w, i32_w]
    rfl
  refine take_ (i := 1) (N := some 38) (v := .agg X) (a' := ?_) #[true, true, false, false, false, false, false, false, false, false, false, false, false, false, false, false, false, false, false, false, false] rfl rfl (take_ofW HT_.out HW_.out (by kernel_rfl)) (fun _ _ _ h => h) (Or.inl ⟨by rfl, ?_⟩) hHeld ?_ ?_
  · intro w' hs_
    exact exec_load_row 25 (.tmp 12) rfl (gx) rfl 25 X (0, 0) _ hs_.2.2.2 hu1 rfl i4.out
  rotate_left
  · simp only [Act.put, List.setIfInBounds_toArray, List.set_cons_zero, List.set_cons_succ, i64_w, i32_w]
    rfl
  refine take_ (i := 2) (N := some 39) (v := .agg O) (a' := ?_) #[true, true, true, false, false, false, false, false, false, false, false, false, false, false, false, false, false, false, false, false, false] rfl rfl (take_ofW HT_.out HW_.out (by kernel_rfl)) (fun _ _ _ h => h) (Or.inl ⟨by rfl, ?_⟩) hHeld ?_ ?_
  · intro w' hs_
    exact exec_load_row 27 (.tmp 7) rfl (w.heap.size + 1 + 1) rfl 27 O (0, 0) _ hs_.2.2.1 hu2 rfl i3.out
  rotate_left
  · simp only [Act.put, List.setIfInBounds_toArray, List.set_cons_zero, List.set_cons_succ, i64_w, i32_w]
    rfl
  refine pure_ (i := 4) (N := some 41) (v := ?_) (a' := ?_) #[true, true, true, false, true, false, false, false, false, false, false, false, false, false, false, false, false, false, false, false, false] rfl rfl (any_of HT_.out (by kernel_rfl)) (fun _ _ _ h => h) (Or.inl ⟨by rfl, ?_⟩) ?_ ?_
  rotate_left
  · intro w'
    go_simp
    with_reducible rfl
  rotate_left
  · simp only [Act.put, List.setIfInBounds_toArray, List.set_cons_zero, List.set_cons_succ, i64_w, i32_w]
    rfl
  refine one_ (i := 3) (N := some 40) #[true, true, true, true, true, false, false, false, false, false, false, false, false, false, false, false, false, false, false, false, false] rfl rfl (one_of HT_.out (by kernel_rfl)) (by decide) (fun K hK => ?_)
  refine goes_ Try.func10 (by kernel_rfl) rfl #[.agg S, .agg X, .agg O] (by rfl) rfl rfl (by (try simp only [List.map_toArray, List.map_cons, List.map_nil]); first | done | rfl) ?_
  refine (h3.out _).mono ?_
  rintro e w1 ⟨rfl, hb⟩
  refine ⟨_, rfl, ?_⟩
  have HB1 := Aside0.mk (B4.step HD.out hb)
  clear HD
  have HD := HB1
  clear HB1
  clear hb
  refine hK.out _ _ ⟨HD.out.1.2.1, HD.out.1.2.2.1, HD.out.1.2.2.2, HD.out.2⟩ (fun hHeld => ?_)
  clear hK K
  refine norm_ (a' := ?_) ?_ ?_
  rotate_left
  · show Act.put _ (some 40) _ = _
    simp only [Act.put, List.setIfInBounds_toArray, List.set_cons_zero, List.set_cons_succ, i64_w, i32_w]
    rfl
  refine pure_ (i := 5) (N := some 42) (v := ?_) (a' := ?_) #[true, true, true, true, true, true, false, false, false, false, false, false, false, false, false, false, false, false, false, false, false] rfl rfl (any_of HT_.out (by kernel_rfl)) (fun _ _ _ h => h) (Or.inl ⟨by rfl, ?_⟩) ?_ ?_
  rotate_left
  · intro w'
    go_simp
    with_reducible rfl
  rotate_left
  · simp only [Act.put, List.setIfInBounds_toArray, List.set_cons_zero, List.set_cons_succ, i64_w, i32_w]
    rfl
  refine pure_ (i := 6) (N := some 43) (v := ?_) (a' := ?_) #[true, true, true, true, true, true, true, false, false, false, false, false, false, false, false, false, false, false, false, false, false] rfl rfl (any_of HT_.out (by kernel_rfl)) (fun _ _ _ h => h) (Or.inl ⟨by rfl, ?_⟩) ?_ ?_
  rotate_left
  · intro w'
    go_simp
    with_reducible rfl
  rotate_left
  · simp only [Act.put, List.setIfInBounds_toArray, List.set_cons_zero, List.set_cons_succ, i64_w, i32_w]
    rfl
  refine take_ (i := 7) (N := some 44) (v := .agg S) (a' := ?_) #[true, true, true, true, true, true, true, true, false, false, false, false, false, false, false, false, false, false, false, false, false] rfl rfl (take_ofW HT_.out HW_.out (by kernel_rfl)) (fun _ _ _ h => h) (Or.inl ⟨by rfl, ?_⟩) hHeld ?_ ?_
  · intro w' hs_
    exact exec_load_row 25 (.tmp 5) rfl (w.heap.size) rfl 25 S (0, 0) _ hs_.1 hu1 rfl i1.out
  rotate_left
  · simp only [Act.put, List.setIfInBounds_toArray, List.set_cons_zero, List.set_cons_succ, i64_w, i32_w]
    rfl
  refine take_ (i := 8) (N := some 45) (v := .agg X) (a' := ?_) #[true, true, true, true, true, true, true, true, true, false, false, false, false, false, false, false, false, false, false, false, false] rfl rfl (take_ofW HT_.out HW_.out (by kernel_rfl)) (fun _ _ _ h => h) (Or.inl ⟨by rfl, ?_⟩) hHeld ?_ ?_
  · intro w' hs_
    exact exec_load_row 25 (.tmp 12) rfl (gx) rfl 25 X (0, 0) _ hs_.2.2.2 hu1 rfl i4.out
  rotate_left
  · simp only [Act.put, List.setIfInBounds_toArray, List.set_cons_zero, List.set_cons_succ, i64_w, i32_w]
    rfl
  refine take_ (i := 9) (N := some 46) (v := .agg O) (a' := ?_) #[true, true, true, true, true, true, true, true, true, true, false, false, false, false, false, false, false, false, false, false, false] rfl rfl (take_ofW HT_.out HW_.out (by kernel_rfl)) (fun _ _ _ h => h) (Or.inl ⟨by rfl, ?_⟩) hHeld ?_ ?_
  · intro w' hs_
    exact exec_load_row 27 (.tmp 7) rfl (w.heap.size + 1 + 1) rfl 27 O (0, 0) _ hs_.2.2.1 hu2 rfl i3.out
  rotate_left
  · simp only [Act.put, List.setIfInBounds_toArray, List.set_cons_zero, List.set_cons_succ, i64_w, i32_w]
    rfl
  refine take_ (i := 11) (N := some 48) (v := .agg S) (a' := ?_) #[true, true, true, true, true, true, true, true, true, true, false, true, false, false, false, false, false, false, false, false, false] rfl rfl (take_ofW HT_.out HW_.out (by kernel_rfl)) (fun _ _ _ h => h) (Or.inl ⟨by rfl, ?_⟩) hHeld ?_ ?_
  · intro w' hs_
    exact exec_load_row 25 (.tmp 5) rfl (w.heap.size) rfl 25 S (0, 0) _ hs_.1 hu1 rfl i1.out
  rotate_left
  · simp only [Act.put, List.setIfInBounds_toArray, List.set_cons_zero, List.set_cons_succ, i64_w, i32_w]
    rfl
  refine take_ (i := 12) (N := some 49) (v := .agg D) (a' := ?_) #[true, true, true, true, true, true, true, true, true, true, false, true, true, false, false, false, false, false, false, false, false] rfl rfl (take_ofW HT_.out HW_.out (by kernel_rfl)) (fun _ _ _ h => h) (Or.inl ⟨by rfl, ?_⟩) hHeld ?_ ?_
  · intro w' hs_
    exact exec_load_row 25 (.tmp 6) rfl (w.heap.size + 1) rfl 25 D (0, 0) _ hs_.2.1 hu1 rfl i2.out
  rotate_left
  · simp only [Act.put, List.setIfInBounds_toArray, List.set_cons_zero, List.set_cons_succ, i64_w, i32_w]
    rfl
  refine take_ (i := 13) (N := some 50) (v := .agg O) (a' := ?_) #[true, true, true, true, true, true, true, true, true, true, false, true, true, true, false, false, false, false, false, false, false] rfl rfl (take_ofW HT_.out HW_.out (by kernel_rfl)) (fun _ _ _ h => h) (Or.inl ⟨by rfl, ?_⟩) hHeld ?_ ?_
  · intro w' hs_
    exact exec_load_row 27 (.tmp 7) rfl (w.heap.size + 1 + 1) rfl 27 O (0, 0) _ hs_.2.2.1 hu2 rfl i3.out
  rotate_left
  · simp only [Act.put, List.setIfInBounds_toArray, List.set_cons_zero, List.set_cons_succ, i64_w, i32_w]
    rfl
  refine one_ (i := 10) (N := some 47) #[true, true, true, true, true, true, true, true, true, true, true, true, true, true, false, false, false, false, false, false, false] rfl rfl (one_of HT_.out (by kernel_rfl)) (by decide) (fun K hK => ?_)
  refine goes_ Try.func17 (by kernel_rfl) rfl #[.agg S, .agg X, .bool true, .agg O] (by rfl) rfl rfl (by (try simp only [List.map_toArray, List.map_cons, List.map_nil]); first | done | rfl) ?_
  refine (h4.out _).mono ?_
  rintro e w1 ⟨rfl, hb⟩
  refine ⟨_, rfl, ?_⟩
  have HB1 := Aside0.mk (B4.step HD.out hb)
  clear HD
  have HD := HB1
  clear HB1
  clear hb
  refine hK.out _ _ ⟨HD.out.1.2.1, HD.out.1.2.2.1, HD.out.1.2.2.2, HD.out.2⟩ (fun hHeld => ?_)
  clear hK K
  refine norm_ (a' := ?_) ?_ ?_
  rotate_left
  · show Act.put _ (some 47) _ = _
    simp only [Act.put, List.setIfInBounds_toArray, List.set_cons_zero, List.set_cons_succ, i64_w, i32_w]
    rfl
  refine one_ (i := 14) (N := some 51) #[true, true, true, true, true, true, true, true, true, true, true, true, true, true, true, false, false, false, false, false, false] rfl rfl (one_of HT_.out (by kernel_rfl)) (by decide) (fun K hK => ?_)
  refine goes_ Try.func17 (by kernel_rfl) rfl #[.agg S, .agg D, .bool true, .agg O] (by rfl) rfl rfl (by (try simp only [List.map_toArray, List.map_cons, List.map_nil]); first | done | rfl) ?_
  refine (h5.out _).mono ?_
  rintro e w1 ⟨rfl, hb⟩
  refine ⟨_, rfl, ?_⟩
  have HB1 := Aside0.mk (B4.step HD.out hb)
  clear HD
  have HD := HB1
  clear HB1
  clear hb
  refine hK.out _ _ ⟨HD.out.1.2.1, HD.out.1.2.2.1, HD.out.1.2.2.2, HD.out.2⟩ (fun hHeld => ?_)
  clear hK K
  refine norm_ (a' := ?_) ?_ ?_
  rotate_left
  · show Act.put _ (some 51) _ = _
    simp only [Act.put, List.setIfInBounds_toArray, List.set_cons_zero, List.set_cons_succ, i64_w, i32_w]
    rfl
  refine pure_ (i := 15) (N := some 52) (v := ?_) (a' := ?_) #[true, true, true, true, true, true, true, true, true, true, true, true, true, true, true, true, false, false, false, false, false] rfl rfl (any_of HT_.out (by kernel_rfl)) (fun _ _ _ h => h) (Or.inl ⟨by rfl, ?_⟩) ?_ ?_
  rotate_left
  · intro w'
    go_simp
    with_reducible rfl
  rotate_left
  · simp only [Act.put, List.setIfInBounds_toArray, List.set_cons_zero, List.set_cons_succ, i64_w, i32_w]
    rfl
  refine pure_ (i := 16) (N := some 53) (v := ?_) (a' := ?_) #[true, true, true, true, true, true, true, true, true, true, true, true, true, true, true, true, true, false, false, false, false] rfl rfl (any_of HT_.out (by kernel_rfl)) (fun _ _ _ h => h) (Or.inl ⟨by rfl, ?_⟩) ?_ ?_
  rotate_left
  · intro w'
    go_simp
    with_reducible rfl
  rotate_left
  · simp only [Act.put, List.setIfInBounds_toArray, List.set_cons_zero, List.set_cons_succ, i64_w, i32_w]
    rfl
  refine pure_ (i := 17) (N := some 54) (v := ?_) (a' := ?_) #[true, true, true, true, true, true, true, true, true, true, true, true, true, true, true, true, true, true, false, false, false] rfl rfl (any_of HT_.out (by kernel_rfl)) (fun _ _ _ h => h) (Or.inl ⟨by rfl, ?_⟩) ?_ ?_
  rotate_left
  · intro w'
    go_simp
    with_reducible rfl
  rotate_left
  · simp only [Act.put, List.setIfInBounds_toArray, List.set_cons_zero, List.set_cons_succ, i64_w, i32_w]
    rfl
  refine one_ (i := 18) (N := some 55) #[true, true, true, true, true, true, true, true, true, true, true, true, true, true, true, true, true, true, true, false, false] rfl rfl (one_of HT_.out (by kernel_rfl)) (by decide) (fun K hK => ?_)
  refine goes_ Try.func12 (by kernel_rfl) rfl #[] (by rfl) rfl rfl (by (try simp only [List.map_toArray, List.map_cons, List.map_nil]); first | done | rfl) ?_
  refine (h6.out _).mono ?_
  rintro e w1 ⟨rfl, hb⟩
  refine ⟨_, rfl, ?_⟩
  have HB1 := Aside0.mk (B4.step HD.out hb)
  clear HD
  have HD := HB1
  clear HB1
  clear hb
  refine hK.out _ _ ⟨HD.out.1.2.1, HD.out.1.2.2.1, HD.out.1.2.2.2, HD.out.2⟩ (fun hHeld => ?_)
  clear hK K
  refine norm_ (a' := ?_) ?_ ?_
  rotate_left
  · show Act.put _ (some 55) _ = _
    simp only [Act.put, List.setIfInBounds_toArray, List.set_cons_zero, List.set_cons_succ, i64_w, i32_w]
    rfl
  refine pure_ (i := 19) (N := some 56) (v := ?_) (a' := ?_) #[true, true, true, true, true, true, true, true, true, true, true, true, true, true, true, true, true, true, true, true, false] rfl rfl (any_of HT_.out (by kernel_rfl)) (fun _ _ _ h => h) (Or.inl ⟨by rfl, ?_⟩) ?_ ?_
  rotate_left
  · intro w'
    go_simp
    with_reducible rfl
  rotate_left
  · simp only [Act.put, List.setIfInBounds_toArray, List.set_cons_zero, List.set_cons_succ, i64_w, i32_w]
    rfl
  refine pure_ (i := 20) (N := some 10) (v := ?_) (a' := ?_) #[true, true, true, true, true, true, true, true, true, true, true, true, true, true, true, true, true, true, true, true, true] rfl rfl (any_of HT_.out (by kernel_rfl)) (fun _ _ _ h => h) (Or.inl ⟨by rfl, ?_⟩) ?_ ?_
  rotate_left
  · intro w'
    go_simp
    with_reducible rfl
  rotate_left
  · simp only [Act.put, List.setIfInBounds_toArray, List.set_cons_zero, List.set_cons_succ, i64_w, i32_w]
    rfl
  refine done_ (done_of HT_.out (by kernel_rfl)) ?_
  go_wp2
  go_ret
  exact ⟨rfl, HD.out.1.1⟩
set_option maxHeartbeats 4000000 in
set_option maxRecDepth 100000 in
theorem quickTurned_n (S D O X : Array Value) (hS : S.size = 11) (hD : D.size = 11) (hD1c : Aside0 (D.all (·.oneCell') = true)) (hO : O.size = 21) (p : ByteArray) (n d kb : Int) (b : Bool) (hX : X = ((((D.setIfInBounds 0 (.string p)).setIfInBounds 10 (.int .i64 n)).setIfInBounds 2 (.int .i64 n)).setIfInBounds 9 (.string p))) (hD1 : D[1]'(by omega) = .int .i64 kb) (hkb : (kb == 1) = false)
    (h1 : Aside0 (∀ w, Calls Try.prog 10 #[.agg S, .agg D, .agg O] w fun e w' => e = .returned (.int .i64 d) ∧ Below w.heap.size w w'))
    (h2 : Aside0 (∀ w, Calls Try.prog 10 #[.agg D, .agg S, .agg O] w fun e w' => e = .returned (.int .i64 d) ∧ Below w.heap.size w w'))
    (h3 : Aside0 (∀ w, Calls Try.prog 10 #[.agg S, .agg X, .agg O] w fun e w' => e = .returned (.int .i64 d) ∧ Below w.heap.size w w'))
    (h4 : Aside0 (∀ w, Calls Try.prog 17 #[.agg S, .agg X, .bool true, .agg O] w fun e w' => e = .returned (.bool b) ∧ Below w.heap.size w w'))
    (h5 : Aside0 (∀ w, Calls Try.prog 17 #[.agg S, .agg D, .bool true, .agg O] w fun e w' => e = .returned (.bool b) ∧ Below w.heap.size w w'))
    (h6 : Aside0 (∀ w, Calls Try.prog 12 #[] w fun e w' => e = .returned (.bool true) ∧ Below w.heap.size w w')) (w : World) :
    Calls Try.prog 7 #[.agg S, .agg D, .agg O, .string p, .int .i64 n] w fun e w' => e = .returned (.bool true) ∧ Below w.heap.size w w' := by
  have hu1 := Try.underlying25
  have hu2 := Try.underlying27
  have i1 := Aside0.mk (show (Try.prog.info? 25).map (·.size) = some S.size by rw [hS]; kernel_rfl)
  have i2 := Aside0.mk (show (Try.prog.info? 25).map (·.size) = some D.size by rw [hD]; kernel_rfl)
  have i3 := Aside0.mk (show (Try.prog.info? 27).map (·.size) = some O.size by rw [hO]; kernel_rfl)
  have i4 := Aside0.mk (show (Try.prog.info? 25).map (·.size) = some X.size by rw [hX]; simp only [Array.size_setIfInBounds, hD]; kernel_rfl)
  have HX := Aside0.mk hX
  clear hX
  have HD := Aside0.mk (B3.start 25 25 27 w S D O)
  go_enter Try.func7, Try.ntmps7
  go_wp2_with (first | ((with_reducible refine gate_dst (N := 13) rfl ?_); refine wpList_load_row rfl 25 (.tmp 5) rfl (w.heap.size) rfl 25 S (0, 0) _ HD.out.2.1 hu1 rfl i1.out ?_) | ((with_reducible refine gate_dst (N := 14) rfl ?_); refine wpList_load_row rfl 25 (.tmp 6) rfl (w.heap.size + 1) rfl 25 D (0, 0) _ HD.out.2.2.1 hu1 rfl i2.out ?_) | ((with_reducible refine gate_dst (N := 15) rfl ?_); refine wpList_load_row rfl 27 (.tmp 7) rfl (w.heap.size + 1 + 1) rfl 27 O (0, 0) _ HD.out.2.2.2 hu2 rfl i3.out ?_))
  refine (h1.out _).mono ?_
  rintro e w1 ⟨rfl, hb⟩
  have HB1 := Aside0.mk (B3.step HD.out hb)
  clear HD hb
  have HD := HB1
  clear HB1
  go_wp2_with (first | ((with_reducible refine gate_dst (N := 18) rfl ?_); refine wpList_load_row rfl 25 (.tmp 6) rfl (w.heap.size + 1) rfl 25 D (0, 0) _ HD.out.2.2.1 hu1 rfl i2.out ?_) | ((with_reducible refine gate_dst (N := 19) rfl ?_); refine wpList_load_row rfl 25 (.tmp 5) rfl (w.heap.size) rfl 25 S (0, 0) _ HD.out.2.1 hu1 rfl i1.out ?_) | ((with_reducible refine gate_dst (N := 20) rfl ?_); refine wpList_load_row rfl 27 (.tmp 7) rfl (w.heap.size + 1 + 1) rfl 27 O (0, 0) _ HD.out.2.2.2 hu2 rfl i3.out ?_))
  refine (h2.out _).mono ?_
  rintro e w1 ⟨rfl, hb⟩
  have HB1 := Aside0.mk (B3.step HD.out hb)
  clear HD hb
  have HD := HB1
  clear HB1
  have hcD : ∀ o, (w1.alloc o).cell? ⟨w.heap.size + 1, 1, none⟩ = some (.int .i64 kb) := fun o => (blk_cell (blk_alloc HD.out.2.2.1 o) 1).trans ((Array.getElem?_eq_getElem (by omega)).trans (congrArg some hD1))
  have hst := run_storeCells_new (P := Try.prog) w1 25 #[.string ⟨#[]⟩, .int .i64 0, .int .i64 0, .int .i64 0, .int .i64 0, .int .i64 0, .int .i64 0, .int .i64 0, .string ⟨#[]⟩, .string ⟨#[]⟩, .int .i64 0] D i2.out hD.symm hD1c.out
  go_wp2_with (first | ((with_reducible refine gate_dst (N := 23) rfl ?_); refine wpList_load_row rfl 25 (.tmp 6) rfl (w.heap.size + 1) rfl 25 D (0, 0) _ HD.out.2.2.1 hu1 rfl i2.out ?_))
  rw [← HX.out]
  have HD4 : Aside0 (B4 25 27 w ((w1.alloc (.cells X 25)).drew) S D O w1.heap.size X) := ⟨⟨B3.step HD.out (below_drew1 (below_alloc (Below.refl _ _) _)), blk_drew (blk_new _ _)⟩⟩
  clear HD hst hcD
  have HD := HD4
  clear HD4
  obtain ⟨gx, hgx⟩ : ∃ gx, gx = w1.heap.size := ⟨_, rfl⟩
  rw [← hgx] at HD ⊢
  clear hgx
  refine start_ (n := 21) (S := fun w' => w'.heap[w.heap.size]? = some (.cells S 25 (0, 0)) ∧ w'.heap[w.heap.size + 1]? = some (.cells D 25 (0, 0)) ∧ w'.heap[w.heap.size + 1 + 1]? = some (.cells O 27 (0, 0)) ∧ w'.heap[gx]? = some (.cells X 25 (0, 0))) (ds := []) #[false, false, false, false, false, false, false, false, false, false, false, false, false, false, false, false, false, false, false, false, false] (by kernel_rfl) rfl rfl ⟨HD.out.1.2.1, HD.out.1.2.2.1, HD.out.1.2.2.2, HD.out.2⟩ (fun hHeld => ?_)
  refine with_tabW remoralaw21_QuickTurned_h.tab11 remoralaw21_QuickTurned_h.bits11 (fun HT_ HW_ => ?_)
  refine take_ (i := 0) (N := some 37) (v := .agg S) (a' := ?_) #[true, false, false, false, false, false, false, false, false, false, false, false, false, false, false, false, false, false, false, false, false] rfl rfl (take_ofW HT_.out HW_.out (by kernel_rfl)) (fun _ _ _ h => h) (Or.inl ⟨by rfl, ?_⟩) hHeld ?_ ?_
  · intro w' hs_
    exact exec_load_row 25 (.tmp 5) rfl (w.heap.size) rfl 25 S (0, 0) _ hs_.1 hu1 rfl i1.out
  rotate_left
  · simp only [Act.put, List.setIfInBounds_toArray, List.set_cons_zero, List.set_cons_succ, i64_w, i32_w]
    rfl
  refine take_ (i := 1) (N := some 38) (v := .agg X) (a' := ?_) #[true, true, false, false, false, false, false, false, false, false, false, false, false, false, false, false, false, false, false, false, false] rfl rfl (take_ofW HT_.out HW_.out (by kernel_rfl)) (fun _ _ _ h => h) (Or.inl ⟨by rfl, ?_⟩) hHeld ?_ ?_
  · intro w' hs_
    exact exec_load_row 25 (.tmp 12) rfl (gx) rfl 25 X (0, 0) _ hs_.2.2.2 hu1 rfl i4.out
  rotate_left
  · simp only [Act.put, List.setIfInBounds_toArray, List.set_cons_zero, List.set_cons_succ, i64_w, i32_w]
    rfl
  refine take_ (i := 2) (N := some 39) (v := .agg O) (a' := ?_) #[true, true, true, false, false, false, false, false, false, false, false, false, false, false, false, false, false, false, false, false, false] rfl rfl (take_ofW HT_.out HW_.out (by kernel_rfl)) (fun _ _ _ h => h) (Or.inl ⟨by rfl, ?_⟩) hHeld ?_ ?_
  · intro w' hs_
    exact exec_load_row 27 (.tmp 7) rfl (w.heap.size + 1 + 1) rfl 27 O (0, 0) _ hs_.2.2.1 hu2 rfl i3.out
  rotate_left
  · simp only [Act.put, List.setIfInBounds_toArray, List.set_cons_zero, List.set_cons_succ, i64_w, i32_w]
    rfl
  refine pure_ (i := 4) (N := some 41) (v := ?_) (a' := ?_) #[true, true, true, false, true, false, false, false, false, false, false, false, false, false, false, false, false, false, false, false, false] rfl rfl (any_of HT_.out (by kernel_rfl)) (fun _ _ _ h => h) (Or.inl ⟨by rfl, ?_⟩) ?_ ?_
  rotate_left
  · intro w'
    go_simp
    with_reducible rfl
  rotate_left
  · simp only [Act.put, List.setIfInBounds_toArray, List.set_cons_zero, List.set_cons_succ, i64_w, i32_w]
    rfl
  refine one_ (i := 3) (N := some 40) #[true, true, true, true, true, false, false, false, false, false, false, false, false, false, false, false, false, false, false, false, false] rfl rfl (one_of HT_.out (by kernel_rfl)) (by decide) (fun K hK => ?_)
  refine goes_ Try.func10 (by kernel_rfl) rfl #[.agg S, .agg X, .agg O] (by rfl) rfl rfl (by (try simp only [List.map_toArray, List.map_cons, List.map_nil]); first | done | rfl) ?_
  refine (h3.out _).mono ?_
  rintro e w1 ⟨rfl, hb⟩
  refine ⟨_, rfl, ?_⟩
  have HB1 := Aside0.mk (B4.step HD.out hb)
  clear HD
  have HD := HB1
  clear HB1
  clear hb
  refine hK.out _ _ ⟨HD.out.1.2.1, HD.out.1.2.2.1, HD.out.1.2.2.2, HD.out.2⟩ (fun hHeld => ?_)
  clear hK K
  refine norm_ (a' := ?_) ?_ ?_
  rotate_left
  · show Act.put _ (some 40) _ = _
    simp only [Act.put, List.setIfInBounds_toArray, List.set_cons_zero, List.set_cons_succ, i64_w, i32_w]
    rfl
  refine pure_ (i := 5) (N := some 42) (v := ?_) (a' := ?_) #[true, true, true, true, true, true, false, false, false, false, false, false, false, false, false, false, false, false, false, false, false] rfl rfl (any_of HT_.out (by kernel_rfl)) (fun _ _ _ h => h) (Or.inl ⟨by rfl, ?_⟩) ?_ ?_
  rotate_left
  · intro w'
    go_simp
    with_reducible rfl
  rotate_left
  · simp only [Act.put, List.setIfInBounds_toArray, List.set_cons_zero, List.set_cons_succ, i64_w, i32_w]
    rfl
  refine pure_ (i := 6) (N := some 43) (v := ?_) (a' := ?_) #[true, true, true, true, true, true, true, false, false, false, false, false, false, false, false, false, false, false, false, false, false] rfl rfl (any_of HT_.out (by kernel_rfl)) (fun _ _ _ h => h) (Or.inl ⟨by rfl, ?_⟩) ?_ ?_
  rotate_left
  · intro w'
    go_simp
    with_reducible rfl
  rotate_left
  · simp only [Act.put, List.setIfInBounds_toArray, List.set_cons_zero, List.set_cons_succ, i64_w, i32_w]
    rfl
  refine take_ (i := 7) (N := some 44) (v := .agg S) (a' := ?_) #[true, true, true, true, true, true, true, true, false, false, false, false, false, false, false, false, false, false, false, false, false] rfl rfl (take_ofW HT_.out HW_.out (by kernel_rfl)) (fun _ _ _ h => h) (Or.inl ⟨by rfl, ?_⟩) hHeld ?_ ?_
  · intro w' hs_
    exact exec_load_row 25 (.tmp 5) rfl (w.heap.size) rfl 25 S (0, 0) _ hs_.1 hu1 rfl i1.out
  rotate_left
  · simp only [Act.put, List.setIfInBounds_toArray, List.set_cons_zero, List.set_cons_succ, i64_w, i32_w]
    rfl
  refine take_ (i := 8) (N := some 45) (v := .agg X) (a' := ?_) #[true, true, true, true, true, true, true, true, true, false, false, false, false, false, false, false, false, false, false, false, false] rfl rfl (take_ofW HT_.out HW_.out (by kernel_rfl)) (fun _ _ _ h => h) (Or.inl ⟨by rfl, ?_⟩) hHeld ?_ ?_
  · intro w' hs_
    exact exec_load_row 25 (.tmp 12) rfl (gx) rfl 25 X (0, 0) _ hs_.2.2.2 hu1 rfl i4.out
  rotate_left
  · simp only [Act.put, List.setIfInBounds_toArray, List.set_cons_zero, List.set_cons_succ, i64_w, i32_w]
    rfl
  refine take_ (i := 9) (N := some 46) (v := .agg O) (a' := ?_) #[true, true, true, true, true, true, true, true, true, true, false, false, false, false, false, false, false, false, false, false, false] rfl rfl (take_ofW HT_.out HW_.out (by kernel_rfl)) (fun _ _ _ h => h) (Or.inl ⟨by rfl, ?_⟩) hHeld ?_ ?_
  · intro w' hs_
    exact exec_load_row 27 (.tmp 7) rfl (w.heap.size + 1 + 1) rfl 27 O (0, 0) _ hs_.2.2.1 hu2 rfl i3.out
  rotate_left
  · simp only [Act.put, List.setIfInBounds_toArray, List.set_cons_zero, List.set_cons_succ, i64_w, i32_w]
    rfl
  refine take_ (i := 11) (N := some 48) (v := .agg S) (a' := ?_) #[true, true, true, true, true, true, true, true, true, true, false, true, false, false, false, false, false, false, false, false, false] rfl rfl (take_ofW HT_.out HW_.out (by kernel_rfl)) (fun _ _ _ h => h) (Or.inl ⟨by rfl, ?_⟩) hHeld ?_ ?_
  · intro w' hs_
    exact exec_load_row 25 (.tmp 5) rfl (w.heap.size) rfl 25 S (0, 0) _ hs_.1 hu1 rfl i1.out
  rotate_left
  · simp only [Act.put, List.setIfInBounds_toArray, List.set_cons_zero, List.set_cons_succ, i64_w, i32_w]
    rfl
  refine take_ (i := 12) (N := some 49) (v := .agg D) (a' := ?_) #[true, true, true, true, true, true, true, true, true, true, false, true, true, false, false, false, false, false, false, false, false] rfl rfl (take_ofW HT_.out HW_.out (by kernel_rfl)) (fun _ _ _ h => h) (Or.inl ⟨by rfl, ?_⟩) hHeld ?_ ?_
  · intro w' hs_
    exact exec_load_row 25 (.tmp 6) rfl (w.heap.size + 1) rfl 25 D (0, 0) _ hs_.2.1 hu1 rfl i2.out
  rotate_left
  · simp only [Act.put, List.setIfInBounds_toArray, List.set_cons_zero, List.set_cons_succ, i64_w, i32_w]
    rfl
  refine take_ (i := 13) (N := some 50) (v := .agg O) (a' := ?_) #[true, true, true, true, true, true, true, true, true, true, false, true, true, true, false, false, false, false, false, false, false] rfl rfl (take_ofW HT_.out HW_.out (by kernel_rfl)) (fun _ _ _ h => h) (Or.inl ⟨by rfl, ?_⟩) hHeld ?_ ?_
  · intro w' hs_
    exact exec_load_row 27 (.tmp 7) rfl (w.heap.size + 1 + 1) rfl 27 O (0, 0) _ hs_.2.2.1 hu2 rfl i3.out
  rotate_left
  · simp only [Act.put, List.setIfInBounds_toArray, List.set_cons_zero, List.set_cons_succ, i64_w, i32_w]
    rfl
  refine one_ (i := 10) (N := some 47) #[true, true, true, true, true, true, true, true, true, true, true, true, true, true, false, false, false, false, false, false, false] rfl rfl (one_of HT_.out (by kernel_rfl)) (by decide) (fun K hK => ?_)
  refine goes_ Try.func17 (by kernel_rfl) rfl #[.agg S, .agg X, .bool true, .agg O] (by rfl) rfl rfl (by (try simp only [List.map_toArray, List.map_cons, List.map_nil]); first | done | rfl) ?_
  refine (h4.out _).mono ?_
  rintro e w1 ⟨rfl, hb⟩
  refine ⟨_, rfl, ?_⟩
  have HB1 := Aside0.mk (B4.step HD.out hb)
  clear HD
  have HD := HB1
  clear HB1
  clear hb
  refine hK.out _ _ ⟨HD.out.1.2.1, HD.out.1.2.2.1, HD.out.1.2.2.2, HD.out.2⟩ (fun hHeld => ?_)
  clear hK K
  refine norm_ (a' := ?_) ?_ ?_
  rotate_left
  · show Act.put _ (some 47) _ = _
    simp only [Act.put, List.setIfInBounds_toArray, List.set_cons_zero, List.set_cons_succ, i64_w, i32_w]
    rfl
  refine one_ (i := 14) (N := some 51) #[true, true, true, true, true, true, true, true, true, true, true, true, true, true, true, false, false, false, false, false, false] rfl rfl (one_of HT_.out (by kernel_rfl)) (by decide) (fun K hK => ?_)
  refine goes_ Try.func17 (by kernel_rfl) rfl #[.agg S, .agg D, .bool true, .agg O] (by rfl) rfl rfl (by (try simp only [List.map_toArray, List.map_cons, List.map_nil]); first | done | rfl) ?_
  refine (h5.out _).mono ?_
  rintro e w1 ⟨rfl, hb⟩
  refine ⟨_, rfl, ?_⟩
  have HB1 := Aside0.mk (B4.step HD.out hb)
  clear HD
  have HD := HB1
  clear HB1
  clear hb
  refine hK.out _ _ ⟨HD.out.1.2.1, HD.out.1.2.2.1, HD.out.1.2.2.2, HD.out.2⟩ (fun hHeld => ?_)
  clear hK K
  refine norm_ (a' := ?_) ?_ ?_
  rotate_left
  · show Act.put _ (some 51) _ = _
    simp only [Act.put, List.setIfInBounds_toArray, List.set_cons_zero, List.set_cons_succ, i64_w, i32_w]
    rfl
  refine pure_ (i := 15) (N := some 52) (v := ?_) (a' := ?_) #[true, true, true, true, true, true, true, true, true, true, true, true, true, true, true, true, false, false, false, false, false] rfl rfl (any_of HT_.out (by kernel_rfl)) (fun _ _ _ h => h) (Or.inl ⟨by rfl, ?_⟩) ?_ ?_
  rotate_left
  · intro w'
    go_simp
    with_reducible rfl
  rotate_left
  · simp only [Act.put, List.setIfInBounds_toArray, List.set_cons_zero, List.set_cons_succ, i64_w, i32_w]
    rfl
  refine pure_ (i := 16) (N := some 53) (v := ?_) (a' := ?_) #[true, true, true, true, true, true, true, true, true, true, true, true, true, true, true, true, true, false, false, false, false] rfl rfl (any_of HT_.out (by kernel_rfl)) (fun _ _ _ h => h) (Or.inl ⟨by rfl, ?_⟩) ?_ ?_
  rotate_left
  · intro w'
    go_simp
    with_reducible rfl
  rotate_left
  · simp only [Act.put, List.setIfInBounds_toArray, List.set_cons_zero, List.set_cons_succ, i64_w, i32_w]
    rfl
  refine pure_ (i := 17) (N := some 54) (v := ?_) (a' := ?_) #[true, true, true, true, true, true, true, true, true, true, true, true, true, true, true, true, true, true, false, false, false] rfl rfl (any_of HT_.out (by kernel_rfl)) (fun _ _ _ h => h) (Or.inl ⟨by rfl, ?_⟩) ?_ ?_
  rotate_left
  · intro w'
    go_simp
    with_reducible rfl
  rotate_left
  · simp only [Act.put, List.setIfInBounds_toArray, List.set_cons_zero, List.set_cons_succ, i64_w, i32_w]
    rfl
  refine one_ (i := 18) (N := some 55) #[true, true, true, true, true, true, true, true, true, true, true, true, true, true, true, true, true, true, true, false, false] rfl rfl (one_of HT_.out (by kernel_rfl)) (by decide) (fun K hK => ?_)
  refine goes_ Try.func12 (by kernel_rfl) rfl #[] (by rfl) rfl rfl (by (try simp only [List.map_toArray, List.map_cons, List.map_nil]); first | done | rfl) ?_
  refine (h6.out _).mono ?_
  rintro e w1 ⟨rfl, hb⟩
  refine ⟨_, rfl, ?_⟩
  have HB1 := Aside0.mk (B4.step HD.out hb)
  clear HD
  have HD := HB1
  clear HB1
  clear hb
  refine hK.out _ _ ⟨HD.out.1.2.1, HD.out.1.2.2.1, HD.out.1.2.2.2, HD.out.2⟩ (fun hHeld => ?_)
  clear hK K
  refine norm_ (a' := ?_) ?_ ?_
  rotate_left
  · show Act.put _ (some 55) _ = _
    simp only [Act.put, List.setIfInBounds_toArray, List.set_cons_zero, List.set_cons_succ, i64_w, i32_w]
    rfl
  refine pure_ (i := 19) (N := some 56) (v := ?_) (a' := ?_) #[true, true, true, true, true, true, true, true, true, true, true, true, true, true, true, true, true, true, true, true, false] rfl rfl (any_of HT_.out (by kernel_rfl)) (fun _ _ _ h => h) (Or.inl ⟨by rfl, ?_⟩) ?_ ?_
  rotate_left
  · intro w'
    go_simp
    with_reducible rfl
  rotate_left
  · simp only [Act.put, List.setIfInBounds_toArray, List.set_cons_zero, List.set_cons_succ, i64_w, i32_w]
    rfl
  refine pure_ (i := 20) (N := some 10) (v := ?_) (a' := ?_) #[true, true, true, true, true, true, true, true, true, true, true, true, true, true, true, true, true, true, true, true, true] rfl rfl (any_of HT_.out (by kernel_rfl)) (fun _ _ _ h => h) (Or.inl ⟨by rfl, ?_⟩) ?_ ?_
  rotate_left
  · intro w'
    go_simp
    with_reducible rfl
  rotate_left
  · simp only [Act.put, List.setIfInBounds_toArray, List.set_cons_zero, List.set_cons_succ, i64_w, i32_w]
    rfl
  refine done_ (done_of HT_.out (by kernel_rfl)) ?_
  go_wp2
  go_ret
  exact ⟨rfl, HD.out.1.1⟩
end Go.Proofs.Ytniedfbchcgaoaa.PA
/-! ### YtniedfbchcgaoaaXDiffPure -/
namespace Go.Proofs.Ytniedfbchcgaoaa.PA
open Go.RowKit Go.Proofs.YtniedfbchcgaoaaW.PrintWords Go.Proofs.YtniedfbchcgaoaaW.PrintLast Go.Proofs.YtniedfbchcgaoaaW.PrintMore
attribute [local go_sem] max2_int min2_int max_two min_two max_three min_three max_four min_four
set_option linter.unusedVariables false
set_option linter.unusedSimpArgs false
theorem accD_sum (b1 b2 b3 b4 b5 b6 : Bool) : accD b6 (accD b5 (accD b4 (accD b3 (accD b2 (accD b1 0 4) 8) 128) 64) 16) 32 = bitI 16 b5 + bitI 32 b6 + (bitI 4 b1 + bitI 8 b2 + bitI 128 b3 + bitI 64 b4) := by
  cases b1 <;> cases b2 <;> cases b3 <;> cases b4 <;> cases b5 <;> cases b6 <;> rfl
theorem quick_near_f (a0_0 : ByteArray) (a0_1 : Int) (a0_2 : Int) (a0_3 : Int) (a0_4 : Int) (a0_5 : Int) (a0_6 : Int) (a0_7 : Int) (a0_8 : ByteArray) (a0_9 : ByteArray) (a0_10 : Int) (a1_0 : ByteArray) (a1_1 : Int) (a1_2 : Int) (a1_3 : Int) (a1_4 : Int) (a1_5 : Int) (a1_6 : Int) (a1_7 : Int) (a1_8 : ByteArray) (a1_9 : ByteArray) (a1_10 : Int) (a2_0 : Int) (a2_1 : Int) (a2_2 : Bool) (a2_3 : Bool) (a2_4 : Bool) (a2_5 : Bool) (a2_6 : Bool) (a2_7 : Bool) (a2_8 : Bool) (a2_9 : Bool) (a2_10 : Bool) (a2_11 : Bool) (a2_12 : Bool) (a2_13 : Bool) (a2_14 : Bool) (a2_15 : Bool) (a2_16 : Bool) (a2_17 : Bool) (a2_18 : Int) (a2_19 : Int) (a2_20 : Int) : quick_near.f 100 a0_0 a0_1 a0_2 a0_3 a0_4 a0_5 a0_6 a0_7 a0_8 a0_9 a0_10 a1_0 a1_1 a1_2 a1_3 a1_4 a1_5 a1_6 a1_7 a1_8 a1_9 a1_10 a2_0 a2_1 a2_2 a2_3 a2_4 a2_5 a2_6 a2_7 a2_8 a2_9 a2_10 a2_11 a2_12 a2_13 a2_14 a2_15 a2_16 a2_17 a2_18 a2_19 a2_20 = some (nearB a0_3 a0_4 a0_5 a0_6 a0_7 a1_3 a1_4 a1_5 a1_6 a1_7 a2_18) := by
  unfold quick_near.f
  rw [near_progB]
  rfl
def diffD (a0_0 : ByteArray) (a0_1 : Int) (a0_2 : Int) (a0_3 : Int) (a0_4 : Int) (a0_5 : Int) (a0_6 : Int) (a0_7 : Int) (a0_8 : ByteArray) (a0_9 : ByteArray) (a0_10 : Int) (a1_0 : ByteArray) (a1_1 : Int) (a1_2 : Int) (a1_3 : Int) (a1_4 : Int) (a1_5 : Int) (a1_6 : Int) (a1_7 : Int) (a1_8 : ByteArray) (a1_9 : ByteArray) (a1_10 : Int) (a2_0 : Int) (a2_1 : Int) (a2_2 : Bool) (a2_3 : Bool) (a2_4 : Bool) (a2_5 : Bool) (a2_6 : Bool) (a2_7 : Bool) (a2_8 : Bool) (a2_9 : Bool) (a2_10 : Bool) (a2_11 : Bool) (a2_12 : Bool) (a2_13 : Bool) (a2_14 : Bool) (a2_15 : Bool) (a2_16 : Bool) (a2_17 : Bool) (a2_18 : Int) (a2_19 : Int) (a2_20 : Int) : Int := if a0_1 = a1_1 then rDiff (nearB a0_3 a0_4 a0_5 a0_6 a0_7 a1_3 a1_4 a1_5 a1_6 a1_7 a2_18) a0_1 a0_2 a1_2 a0_3 a1_3 a0_6 a1_6 a0_7 a1_7 a0_8 a1_8 a0_9 a1_9 a2_2 a2_7 a2_8 a2_9 else 2
theorem diff_ref (a0_0 : ByteArray) (a0_1 : Int) (a0_2 : Int) (a0_3 : Int) (a0_4 : Int) (a0_5 : Int) (a0_6 : Int) (a0_7 : Int) (a0_8 : ByteArray) (a0_9 : ByteArray) (a0_10 : Int) (a1_0 : ByteArray) (a1_1 : Int) (a1_2 : Int) (a1_3 : Int) (a1_4 : Int) (a1_5 : Int) (a1_6 : Int) (a1_7 : Int) (a1_8 : ByteArray) (a1_9 : ByteArray) (a1_10 : Int) (a2_0 : Int) (a2_1 : Int) (a2_2 : Bool) (a2_3 : Bool) (a2_4 : Bool) (a2_5 : Bool) (a2_6 : Bool) (a2_7 : Bool) (a2_8 : Bool) (a2_9 : Bool) (a2_10 : Bool) (a2_11 : Bool) (a2_12 : Bool) (a2_13 : Bool) (a2_14 : Bool) (a2_15 : Bool) (a2_16 : Bool) (a2_17 : Bool) (a2_18 : Int) (a2_19 : Int) (a2_20 : Int) : remoraref21_Diff.f a0_0 a0_1 a0_2 a0_3 a0_4 a0_5 a0_6 a0_7 a0_8 a0_9 a0_10 a1_0 a1_1 a1_2 a1_3 a1_4 a1_5 a1_6 a1_7 a1_8 a1_9 a1_10 a2_0 a2_1 a2_2 a2_3 a2_4 a2_5 a2_6 a2_7 a2_8 a2_9 a2_10 a2_11 a2_12 a2_13 a2_14 a2_15 a2_16 a2_17 a2_18 a2_19 a2_20 = some (diffD a0_0 a0_1 a0_2 a0_3 a0_4 a0_5 a0_6 a0_7 a0_8 a0_9 a0_10 a1_0 a1_1 a1_2 a1_3 a1_4 a1_5 a1_6 a1_7 a1_8 a1_9 a1_10 a2_0 a2_1 a2_2 a2_3 a2_4 a2_5 a2_6 a2_7 a2_8 a2_9 a2_10 a2_11 a2_12 a2_13 a2_14 a2_15 a2_16 a2_17 a2_18 a2_19 a2_20) := by
  unfold remoraref21_Diff.f diffD
  rw [near_refB 98]
  by_cases h : a0_1 = a1_1
  · rw [if_pos h, if_pos h]
    rfl
  · rw [if_neg h, if_neg h]
theorem diff_prog (a0_0 : ByteArray) (a0_1 : Int) (a0_2 : Int) (a0_3 : Int) (a0_4 : Int) (a0_5 : Int) (a0_6 : Int) (a0_7 : Int) (a0_8 : ByteArray) (a0_9 : ByteArray) (a0_10 : Int) (a1_0 : ByteArray) (a1_1 : Int) (a1_2 : Int) (a1_3 : Int) (a1_4 : Int) (a1_5 : Int) (a1_6 : Int) (a1_7 : Int) (a1_8 : ByteArray) (a1_9 : ByteArray) (a1_10 : Int) (a2_0 : Int) (a2_1 : Int) (a2_2 : Bool) (a2_3 : Bool) (a2_4 : Bool) (a2_5 : Bool) (a2_6 : Bool) (a2_7 : Bool) (a2_8 : Bool) (a2_9 : Bool) (a2_10 : Bool) (a2_11 : Bool) (a2_12 : Bool) (a2_13 : Bool) (a2_14 : Bool) (a2_15 : Bool) (a2_16 : Bool) (a2_17 : Bool) (a2_18 : Int) (a2_19 : Int) (a2_20 : Int) : quick_Diff.f a0_0 a0_1 a0_2 a0_3 a0_4 a0_5 a0_6 a0_7 a0_8 a0_9 a0_10 a1_0 a1_1 a1_2 a1_3 a1_4 a1_5 a1_6 a1_7 a1_8 a1_9 a1_10 a2_0 a2_1 a2_2 a2_3 a2_4 a2_5 a2_6 a2_7 a2_8 a2_9 a2_10 a2_11 a2_12 a2_13 a2_14 a2_15 a2_16 a2_17 a2_18 a2_19 a2_20 = some (diffD a0_0 a0_1 a0_2 a0_3 a0_4 a0_5 a0_6 a0_7 a0_8 a0_9 a0_10 a1_0 a1_1 a1_2 a1_3 a1_4 a1_5 a1_6 a1_7 a1_8 a1_9 a1_10 a2_0 a2_1 a2_2 a2_3 a2_4 a2_5 a2_6 a2_7 a2_8 a2_9 a2_10 a2_11 a2_12 a2_13 a2_14 a2_15 a2_16 a2_17 a2_18 a2_19 a2_20) := by
  unfold quick_Diff.f diffD
  by_cases h : a0_1 = a1_1
  · rw [if_pos h, if_pos h]
    unfold quick_differences_1.f quick_differences_2.f quick_differences_3.f quick_differences_4.f quick_differences_5.f quick_differences_6.f
    simp only [quick_near_f, Option.bind_some]
    generalize nearB a0_3 a0_4 a0_5 a0_6 a0_7 a1_3 a1_4 a1_5 a1_6 a1_7 a2_18 = t
    have e5 : (if a2_7 = true then some (a0_3 != a1_3) else some false) = some (a2_7 && a0_3 != a1_3) := by cases a2_7 <;> rfl
    have e6 : (if a2_9 = true then if a0_6 = a1_6 then some (a0_7 != a1_7) else some true else some false) = some (a2_9 && (a0_6 != a1_6 || a0_7 != a1_7)) := by
      cases a2_9 with
      | false => rfl
      | true =>
        by_cases hu : a0_6 = a1_6
        · simp [hu]
        · have : (a0_6 != a1_6) = true := bne_iff_ne.mpr hu
          simp [hu, this]
    rw [e5, e6]
    clear e5 e6
    have e3 : (if a2_2 = true then some (a0_9.toList != a1_9.toList) else some false) = some (a2_2 && !(a0_9.toList == a1_9.toList)) := by cases a2_2 <;> rfl
    rw [e3]
    clear e3
    unfold rDiff
    generalize (a2_7 && a0_3 != a1_3) = p5
    generalize (a2_9 && (a0_6 != a1_6 || a0_7 != a1_7)) = p6
    generalize (a2_2 && !(a0_9.toList == a1_9.toList)) = p3
    by_cases k1 : a0_1 = 1
    · have k3 : ¬ (a0_1 = 3) := by omega
      simp only [if_pos k1, if_neg k3, Option.bind_some, accD_sum]
      have z : bitI 64 false = 0 := rfl
      rw [z]
      congr 1
      omega
    · by_cases k2 : a0_1 = 2
      · have k3 : ¬ (a0_1 = 3) := by omega
        cases a2_8 with
        | false =>
          simp only [if_neg k1, if_neg k3, Bool.false_eq_true, if_false, Option.bind_some, accD_sum, if_pos k2, Bool.false_and]
          rfl
        | true =>
          simp only [if_neg k1, if_neg k3, if_true, Option.bind_some, accD_sum, if_pos k2, Bool.true_and]
          have z : bitI 64 false = 0 := rfl
          have z1 : bitI 4 false = 0 := rfl
          have z2 : bitI 128 false = 0 := rfl
          rw [z, z1, z2]
          congr 1
          omega
      · by_cases k3 : a0_1 = 3
        · cases a2_8 with
          | false =>
            simp only [if_neg k1, if_neg k2, if_pos k3, Bool.false_eq_true, if_false, Option.bind_some, accD_sum, Bool.false_and]
            have z : bitI 8 false = 0 := rfl
            have z1 : bitI 4 false = 0 := rfl
            have z2 : bitI 128 false = 0 := rfl
            rw [z, z1, z2]
            congr 1
          | true =>
            simp only [if_neg k1, if_neg k2, if_pos k3, if_true, Option.bind_some, accD_sum, Bool.true_and]
            have z1 : bitI 4 false = 0 := rfl
            have z2 : bitI 128 false = 0 := rfl
            rw [z1, z2]
            congr 1
            show _ + _ + (0 + bitI 8 (!t) + 0 + bitI 64 (!(a0_8.toList == a1_8.toList))) = _
            omega
        · cases a2_8 with
          | false =>
            simp only [if_neg k1, if_neg k2, if_neg k3, Bool.false_eq_true, if_false, Option.bind_some, accD_sum]
            rfl
          | true =>
            simp only [if_neg k1, if_neg k2, if_neg k3, if_true, Option.bind_some, accD_sum]
            rfl
  · rw [if_neg h, if_neg h]
end Go.Proofs.Ytniedfbchcgaoaa.PA
/-! ### YtniedfbchcgaoaaXBitPure -/
namespace Go.Proofs.Ytniedfbchcgaoaa.PA
open Go.RowKit Go.Proofs.YtniedfbchcgaoaaW.PrintWords Go.Proofs.YtniedfbchcgaoaaW.PrintLast Go.Proofs.YtniedfbchcgaoaaW.PrintMore
attribute [local go_sem] max2_int min2_int max_two min_two max_three min_three max_four min_four
set_option linter.unusedVariables false
set_option linter.unusedSimpArgs false
theorem uOf (a : Int) : ((BitVec.ofInt 64 a).toNat : Int) = a % 18446744073709551616 := by
  simp [BitVec.toNat_ofInt]
  omega
theorem wrap_small (n : Nat) (h : n < 9223372036854775808) : IntKind.i64.wrap (n : Int) = n := by
  rw [IntKind.wrap_i64]
  omega
theorem nat_and_pow (u i : Nat) : u &&& 2 ^ i = if u / 2 ^ i % 2 = 1 then 2 ^ i else 0 := by
  apply Nat.eq_of_testBit_eq
  intro j
  rw [Nat.testBit_and, Nat.testBit_two_pow]
  by_cases h : i = j
  · subst h
    rw [Nat.testBit_eq_decide_div_mod_eq]
    by_cases hb : u / 2 ^ i % 2 = 1
    · rw [if_pos hb, Nat.testBit_two_pow_self]
      simp [hb]
    · rw [if_neg hb]
      simp [hb]
  · rw [decide_eq_false h, Bool.and_false]
    split
    · rw [Nat.testBit_two_pow_of_ne h]
    · simp
theorem and_pow (a : Int) (i : Nat) (hi : i < 62) : Go.bits .and .i64 a (2 ^ i) = 2 ^ i * (a / 2 ^ i % 2) := by
  have hp : (2 : Nat) ^ i < 2 ^ 62 := Nat.pow_lt_pow_right (by decide) hi
  have h62 : (2 : Nat) ^ 62 = 4611686018427387904 := by decide
  have hc : ((2 : Int) ^ i) = ((2 ^ i : Nat) : Int) := by simp
  have e2 : (BitVec.ofInt 64 ((2 : Int) ^ i)).toNat = 2 ^ i := by
    rw [hc, BitVec.ofInt_natCast, BitVec.toNat_ofNat]
    exact Nat.mod_eq_of_lt (by omega)
  show IntKind.i64.wrap (((BitVec.ofInt 64 a) &&& (BitVec.ofInt 64 (2 ^ i))).toNat : Int) = _
  rw [BitVec.toNat_and, e2, nat_and_pow]
  have hu := uOf a
  generalize (BitVec.ofInt 64 a).toNat = u at hu ⊢
  have hdiv : ((u : Int) / 2 ^ i) % 2 = (a / 2 ^ i) % 2 := by
    rw [hu]
    have hs : (18446744073709551616 : Int) = 2 ^ i * (2 * 2 ^ (63 - i)) := by
      have : (2 : Int) ^ i * (2 * 2 ^ (63 - i)) = 2 ^ (i + (1 + (63 - i))) := by rw [Int.pow_add, Int.pow_add]; simp
      rw [this]
      have : i + (1 + (63 - i)) = 64 := by omega
      rw [this]
      decide
    have hpos : (0 : Int) < 2 ^ i := Int.pow_pos (by decide)
    have hm := Int.emod_add_mul_ediv a 18446744073709551616
    have hd : a % 18446744073709551616 = a + 2 ^ i * (-(2 * 2 ^ (63 - i) * (a / 18446744073709551616))) := by
      rw [Int.mul_neg, ← Int.mul_assoc, ← hs]
      omega
    rw [hd, Int.add_mul_ediv_left _ _ (Int.ne_of_gt hpos)]
    generalize a / 2 ^ i = x
    rw [Int.mul_assoc]
    generalize 2 ^ (63 - i) * (a / 18446744073709551616) = y
    omega
  have hn : ((u / 2 ^ i % 2 : Nat) : Int) = (u : Int) / 2 ^ i % 2 := by simp
  have hb : u / 2 ^ i % 2 = 0 ∨ u / 2 ^ i % 2 = 1 := by omega
  rcases hb with hb | hb
  · have : (a / 2 ^ i) % 2 = 0 := by rw [← hdiv, ← hn, hb]; rfl
    rw [this, if_neg (by omega), Int.mul_zero]
    exact wrap_small 0 (by omega)
  · have : (a / 2 ^ i) % 2 = 1 := by rw [← hdiv, ← hn, hb]; rfl
    rw [this]
    have hw := wrap_small (2 ^ i) (by omega)
    rw [if_pos hb, hw, hc, Int.mul_one]
theorem and_one (a : Int) : Go.bits .and .i64 a 1 = a % 2 := by
  have := and_pow a 0 (by omega)
  simpa using this
end Go.Proofs.Ytniedfbchcgaoaa.PA
/-! ### YtniedfbchcgaoaaXQuickPure -/
namespace Go.Proofs.Ytniedfbchcgaoaa.PA
open Go.RowKit Go.Proofs.YtniedfbchcgaoaaW.PrintWords Go.Proofs.YtniedfbchcgaoaaW.PrintLast Go.Proofs.YtniedfbchcgaoaaW.PrintMore
attribute [local go_sem] max2_int min2_int max_two min_two max_three min_three max_four min_four
set_option linter.unusedVariables false
set_option linter.unusedSimpArgs false
theorem and_mask (a : Int) (m : Nat) (hm : m < 4611686018427387904) : Go.bits .and .i64 a (m : Int) = (((BitVec.ofInt 64 a).toNat &&& m : Nat) : Int) := by
  have e2 : (BitVec.ofInt 64 (m : Int)).toNat = m := by
    rw [BitVec.ofInt_natCast, BitVec.toNat_ofNat]
    exact Nat.mod_eq_of_lt (by omega)
  show IntKind.i64.wrap (((BitVec.ofInt 64 a) &&& (BitVec.ofInt 64 (m : Int))).toNat : Int) = _
  rw [BitVec.toNat_and, e2]
  exact wrap_small _ (Nat.lt_of_le_of_lt Nat.and_le_right (by omega))
theorem and_or0 (a : Int) (m n : Nat) (hm : m < 4611686018427387904) (hn : n < 4611686018427387904) (hmn : m ||| n < 4611686018427387904) : (Go.bits .and .i64 a ((m ||| n : Nat) : Int) != 0) = ((Go.bits .and .i64 a (m : Int) != 0) || (Go.bits .and .i64 a (n : Int) != 0)) := by
  rw [and_mask a _ hmn, and_mask a m hm, and_mask a n hn, Nat.and_or_distrib_left]
  generalize (BitVec.ofInt 64 a).toNat &&& m = x
  generalize (BitVec.ofInt 64 a).toNat &&& n = y
  have key : (x ||| y = 0) ↔ (x = 0 ∧ y = 0) := Nat.or_eq_zero_iff
  rw [Bool.eq_iff_iff]
  simp only [Bool.or_eq_true, bne_iff_ne, ne_eq]
  constructor
  · intro h
    by_cases hx : x = 0
    · right
      intro hy
      exact h (by exact_mod_cast key.2 ⟨hx, by exact_mod_cast hy⟩)
    · left
      intro hx'
      exact hx (by exact_mod_cast hx')
  · intro h h0
    have := key.1 (by exact_mod_cast h0)
    rcases h with h | h
    · exact h (by rw [this.1]; rfl)
    · exact h (by rw [this.2]; rfl)
def hasB (d n : Int) : Bool := Go.bits .and .i64 d n != 0
def dataB (d : Int) (chk so : Bool) : Bool := if chk = true then hasB d 1 || hasB d 2 || hasB d 4 || hasB d 128 else if so = true then hasB d 1 || hasB d 2 || hasB d 4 else hasB d 1 || hasB d 2 || hasB d 4 || hasB d 8
theorem data_prog (a0 : Int) (a1_0 : Int) (a1_1 : Int) (a1_2 : Bool) (a1_3 : Bool) (a1_4 : Bool) (a1_5 : Bool) (a1_6 : Bool) (a1_7 : Bool) (a1_8 : Bool) (a1_9 : Bool) (a1_10 : Bool) (a1_11 : Bool) (a1_12 : Bool) (a1_13 : Bool) (a1_14 : Bool) (a1_15 : Bool) (a1_16 : Bool) (a1_17 : Bool) (a1_18 : Int) (a1_19 : Int) (a1_20 : Int) : quick_Data.f a0 a1_0 a1_1 a1_2 a1_3 a1_4 a1_5 a1_6 a1_7 a1_8 a1_9 a1_10 a1_11 a1_12 a1_13 a1_14 a1_15 a1_16 a1_17 a1_18 a1_19 a1_20 = some (dataB a0 a1_2 a1_3) := by
  have m135 : Go.bits .or .i64 3 132 = ((((1 ||| 2) ||| 4) ||| 128 : Nat) : Int) := by decide
  have m7 : Go.bits .or .i64 3 4 = (((1 ||| 2) ||| 4 : Nat) : Int) := by decide
  have m15 : Go.bits .or .i64 3 12 = ((((1 ||| 2) ||| 4) ||| 8 : Nat) : Int) := by decide
  unfold quick_Data.f dataB hasB
  rw [m135, m7, m15, and_or0 a0 ((1 ||| 2) ||| 4) 128 (by decide) (by decide) (by decide), and_or0 a0 ((1 ||| 2) ||| 4) 8 (by decide) (by decide) (by decide), and_or0 a0 (1 ||| 2) 4 (by decide) (by decide) (by decide), and_or0 a0 1 2 (by decide) (by decide) (by decide)]
  cases a1_2 <;> cases a1_3 <;> rfl
theorem data_ref (a0 : Int) (a1_0 : Int) (a1_1 : Int) (a1_2 : Bool) (a1_3 : Bool) (a1_4 : Bool) (a1_5 : Bool) (a1_6 : Bool) (a1_7 : Bool) (a1_8 : Bool) (a1_9 : Bool) (a1_10 : Bool) (a1_11 : Bool) (a1_12 : Bool) (a1_13 : Bool) (a1_14 : Bool) (a1_15 : Bool) (a1_16 : Bool) (a1_17 : Bool) (a1_18 : Int) (a1_19 : Int) (a1_20 : Int) : remoraref21_Data.f 100 a0 a1_0 a1_1 a1_2 a1_3 a1_4 a1_5 a1_6 a1_7 a1_8 a1_9 a1_10 a1_11 a1_12 a1_13 a1_14 a1_15 a1_16 a1_17 a1_18 a1_19 a1_20 = some (dataB a0 a1_2 a1_3) := by
  unfold remoraref21_Data.f dataB
  have hf : ∀ d n, remoraref21_has.f d n = some (hasB d n) := fun _ _ => rfl
  simp only [hf, Option.bind_some]
  generalize hasB a0 1 = h1
  generalize hasB a0 2 = h2
  generalize hasB a0 4 = h4
  have hj : ∀ b, remoraref21_Data.j0 100 a0 b a1_0 a1_1 a1_2 a1_3 a1_4 a1_5 a1_6 a1_7 a1_8 a1_9 a1_10 a1_11 a1_12 a1_13 a1_14 a1_15 a1_16 a1_17 a1_18 a1_19 a1_20 = some (if b = true then true else if a1_2 = true then hasB a0 128 else if a1_3 = true then false else hasB a0 8) := by
    intro b
    show remoraref21_Data.j0 (99 + 1) _ _ _ _ _ _ _ _ _ _ _ _ _ _ _ _ _ _ _ _ _ _ _ = _
    simp only [remoraref21_Data.j0, hf, Option.bind_some]
    cases b <;> cases a1_2 <;> cases a1_3 <;> rfl
  simp only [hj]
  cases h1 <;> cases h2 <;> cases h4 <;> cases a1_2 <;> cases a1_3 <;> simp
theorem bitSet_and (a : Int) (i : Nat) (hi : i < 62) : bitSet a i = hasB a (2 ^ i) := by
  unfold bitSet hasB
  rw [and_one, and_pow a i hi, Bool.eq_iff_iff]
  simp only [Bool.not_eq_true', beq_eq_false_iff_ne, bne_iff_ne, ne_eq]
  have hpos : (0 : Int) < 2 ^ i := Int.pow_pos (by decide)
  constructor
  · intro h h0
    rcases Int.mul_eq_zero.1 h0 with h1 | h1
    · omega
    · exact h h1
  · intro h h0
    exact h (by rw [h0, Int.mul_zero])
def rsign (a : Int) (i : Nat) : Int := if bitSet a i = false then 46 else signL.getD i 0
def rpre (a : Int) (i : Nat) : ByteArray := strOfNums ((List.range i).map (rsign a))
theorem rpre_nine (a : Int) : rpre a 9 = textSpec a := by
  unfold rpre textSpec textL
  congr 1
  apply List.map_congr_left
  intro i hi
  have : i < 9 := by simpa using hi
  simp [rsign, this]
theorem rpre_succ (a : Int) (i : Nat) : rpre a (i + 1) = rpre a i ++ strOfNums [rsign a i] := by
  unfold rpre
  rw [List.range_succ, List.map_append]
  simp [strOfNums, ByteArray.append_eq, ByteArray.ext_iff]
theorem rpre_size (a : Int) (i : Nat) : (rpre a i).size = i := by
  simp [rpre, strOfNums, ByteArray.size]
theorem rtext_step (k : Nat) (a : Int) (i : Nat) (hi : i < 9) : remoraref21_Text.l0 (k + 1) a (rpre a i) (2 ^ i) (i : Int) = remoraref21_Text.l0 k a (rpre a (i + 1)) (2 ^ (i + 1)) ((i + 1 : Nat) : Int) := by
  have hsz := rpre_size a i
  have hb := bitSet_and a i (by omega)
  have hsucc := rpre_succ a i
  have hf : ∀ d n, remoraref21_has.f d n = some (hasB d n) := fun _ _ => rfl
  simp only [remoraref21_Text.l0, hf, Option.bind_some]
  rw [if_pos (show (i : Int) < 9 by omega), ← hb]
  have hw : wrap64 ((i : Int) + 1) = ((i + 1 : Nat) : Int) := by rw [w64 (by omega) (by omega)]; omega
  have hp : (2 : Int) ^ i ≤ 256 := by
    have : i = 0 ∨ i = 1 ∨ i = 2 ∨ i = 3 ∨ i = 4 ∨ i = 5 ∨ i = 6 ∨ i = 7 ∨ i = 8 := by omega
    rcases this with rfl | rfl | rfl | rfl | rfl | rfl | rfl | rfl | rfl <;> decide
  have hp0 : (0 : Int) < 2 ^ i := Int.pow_pos (by decide)
  have hw2 : wrap64 (2 * (2 : Int) ^ i) = 2 ^ (i + 1) := by
    rw [w64 (by omega) (by omega), Int.pow_succ, Int.mul_comm]
  rw [hw, hw2]
  cases hbs : bitSet a i with
  | true =>
    rw [if_pos rfl, if_pos (by omega), if_pos (by omega), if_pos (by omega)]
    have hr : rsign a i = signL.getD i 0 := by simp [rsign, hbs]
    have hx : (⟨#[110, 107, 115, 116, 109, 111, 108, 100, 104]⟩ : ByteArray).extract (i : Int).toNat ((i + 1 : Nat) : Int).toNat = strOfNums [rsign a i] := by
      rw [hr]
      have : i = 0 ∨ i = 1 ∨ i = 2 ∨ i = 3 ∨ i = 4 ∨ i = 5 ∨ i = 6 ∨ i = 7 ∨ i = 8 := by omega
      rcases this with rfl | rfl | rfl | rfl | rfl | rfl | rfl | rfl | rfl <;> decide
    rw [hx, hsz, strOfNums_size, if_pos (by simp; omega), ← hsucc]
  | false =>
    rw [if_neg (by simp)]
    have hr : rsign a i = 46 := by simp [rsign, hbs]
    have hx : (⟨#[46]⟩ : ByteArray) = strOfNums [rsign a i] := by rw [hr]; rfl
    rw [hx, hsz, if_pos (by omega), ← hsucc]
theorem rtext_loop (a : Int) : ∀ (j k i : Nat), i + j = 9 → remoraref21_Text.l0 (j + (k + 1)) a (rpre a i) (2 ^ i) (i : Int) = some (rpre a 9)
  | 0, k, i, h => by
    obtain rfl : i = 9 := by omega
    show remoraref21_Text.l0 (0 + (k + 1)) a (rpre a 9) _ _ = _
    rw [Nat.zero_add]
    simp only [remoraref21_Text.l0]
    rw [if_neg (by omega)]
  | j + 1, k, i, h => by
    have e : j + 1 + (k + 1) = (j + (k + 1)) + 1 := by omega
    rw [e, rtext_step _ a i (by omega)]
    exact rtext_loop a j k (i + 1) (by omega)
theorem rtext_f (a : Int) : remoraref21_Text.f 100 a = some (textSpec a) := by
  unfold remoraref21_Text.f
  rw [← rpre_nine]
  exact rtext_loop a 9 90 0 rfl
def laterB (x1 x2 y1 y2 : Int) : Bool := if x1 > y1 then true else if x1 = y1 then decide (x2 > y2) else false
theorem later_prog (a b c d e f g h i j : Int) : quick_later.f a b c d e f g h i j = some (laterB b c g h) := by
  unfold quick_later.f laterB
  split
  · rfl
  · split <;> rfl
theorem later_ref (a b c d e f g h i j : Int) : remoraref21_later.f a b c d e f g h i j = some (laterB b c g h) := by
  unfold remoraref21_later.f laterB
  split
  · rfl
  · split <;> rfl
theorem skips_prog (a0_0 : ByteArray) (a0_1 : Int) (a0_2 : Int) (a0_3 : Int) (a0_4 : Int) (a0_5 : Int) (a0_6 : Int) (a0_7 : Int) (a0_8 : ByteArray) (a0_9 : ByteArray) (a0_10 : Int) (a1_0 : ByteArray) (a1_1 : Int) (a1_2 : Int) (a1_3 : Int) (a1_4 : Int) (a1_5 : Int) (a1_6 : Int) (a1_7 : Int) (a1_8 : ByteArray) (a1_9 : ByteArray) (a1_10 : Int) (a2 : Bool) (a3_0 : Int) (a3_1 : Int) (a3_2 : Bool) (a3_3 : Bool) (a3_4 : Bool) (a3_5 : Bool) (a3_6 : Bool) (a3_7 : Bool) (a3_8 : Bool) (a3_9 : Bool) (a3_10 : Bool) (a3_11 : Bool) (a3_12 : Bool) (a3_13 : Bool) (a3_14 : Bool) (a3_15 : Bool) (a3_16 : Bool) (a3_17 : Bool) (a3_18 : Int) (a3_19 : Int) (a3_20 : Int) : quick_Skips.f a0_0 a0_1 a0_2 a0_3 a0_4 a0_5 a0_6 a0_7 a0_8 a0_9 a0_10 a1_0 a1_1 a1_2 a1_3 a1_4 a1_5 a1_6 a1_7 a1_8 a1_9 a1_10 a2 a3_0 a3_1 a3_2 a3_3 a3_4 a3_5 a3_6 a3_7 a3_8 a3_9 a3_10 a3_11 a3_12 a3_13 a3_14 a3_15 a3_16 a3_17 a3_18 a3_19 a3_20 = some (skipsB a2 (a0_1 == 2 && a1_1 == 2) (a0_1 == 1 && a1_1 == 1) (laterB a1_4 a1_5 a0_4 a0_5) (nearB a0_3 a0_4 a0_5 a0_6 a0_7 a1_3 a1_4 a1_5 a1_6 a1_7 a3_18) a3_5 a3_6 a3_4) := by
  unfold quick_Skips.f
  rw [later_prog, Option.bind_some, quick_near_f, Option.bind_some]
theorem skips_ref (a0_0 : ByteArray) (a0_1 : Int) (a0_2 : Int) (a0_3 : Int) (a0_4 : Int) (a0_5 : Int) (a0_6 : Int) (a0_7 : Int) (a0_8 : ByteArray) (a0_9 : ByteArray) (a0_10 : Int) (a1_0 : ByteArray) (a1_1 : Int) (a1_2 : Int) (a1_3 : Int) (a1_4 : Int) (a1_5 : Int) (a1_6 : Int) (a1_7 : Int) (a1_8 : ByteArray) (a1_9 : ByteArray) (a1_10 : Int) (a2 : Bool) (a3_0 : Int) (a3_1 : Int) (a3_2 : Bool) (a3_3 : Bool) (a3_4 : Bool) (a3_5 : Bool) (a3_6 : Bool) (a3_7 : Bool) (a3_8 : Bool) (a3_9 : Bool) (a3_10 : Bool) (a3_11 : Bool) (a3_12 : Bool) (a3_13 : Bool) (a3_14 : Bool) (a3_15 : Bool) (a3_16 : Bool) (a3_17 : Bool) (a3_18 : Int) (a3_19 : Int) (a3_20 : Int) : remoraref21_Skips.f 100 a0_0 a0_1 a0_2 a0_3 a0_4 a0_5 a0_6 a0_7 a0_8 a0_9 a0_10 a1_0 a1_1 a1_2 a1_3 a1_4 a1_5 a1_6 a1_7 a1_8 a1_9 a1_10 a2 a3_0 a3_1 a3_2 a3_3 a3_4 a3_5 a3_6 a3_7 a3_8 a3_9 a3_10 a3_11 a3_12 a3_13 a3_14 a3_15 a3_16 a3_17 a3_18 a3_19 a3_20 = some (skipsB a2 (a0_1 == 2 && a1_1 == 2) (a0_1 == 1 && a1_1 == 1) (laterB a1_4 a1_5 a0_4 a0_5) (nearB a0_3 a0_4 a0_5 a0_6 a0_7 a1_3 a1_4 a1_5 a1_6 a1_7 a3_18) a3_5 a3_6 a3_4) := by
  unfold remoraref21_Skips.f
  have hj : ∀ b, remoraref21_Skips.j0 100 b a0_0 a0_1 a0_2 a0_3 a0_4 a0_5 a0_6 a0_7 a0_8 a0_9 a0_10 a1_0 a1_1 a1_2 a1_3 a1_4 a1_5 a1_6 a1_7 a1_8 a1_9 a1_10 a3_0 a3_1 a3_2 a3_3 a3_4 a3_5 a3_6 a3_7 a3_8 a3_9 a3_10 a3_11 a3_12 a3_13 a3_14 a3_15 a3_16 a3_17 a3_18 a3_19 a3_20 = some (if b = true then true else (a3_4 && ((a0_1 == 1 && a1_1 == 1) && (laterB a1_4 a1_5 a0_4 a0_5 && !(nearB a0_3 a0_4 a0_5 a0_6 a0_7 a1_3 a1_4 a1_5 a1_6 a1_7 a3_18))))) := by
    intro b
    show remoraref21_Skips.j0 (99 + 1) b _ _ _ _ _ _ _ _ _ _ _ _ _ _ _ _ _ _ _ _ _ _ _ _ _ _ _ _ _ _ _ _ _ _ _ _ _ _ _ _ _ _ _ = _
    simp only [remoraref21_Skips.j0, later_ref, Option.bind_some, near_refB 97]
    generalize nearB a0_3 a0_4 a0_5 a0_6 a0_7 a1_3 a1_4 a1_5 a1_6 a1_7 a3_18 = t
    generalize laterB a1_4 a1_5 a0_4 a0_5 = l
    cases b with
    | true => rfl
    | false =>
      cases a3_4 with
      | false => rfl
      | true =>
        by_cases h1 : a0_1 = 1
        · by_cases h2 : a1_1 = 1
          · simp only [h1, h2, if_true, Bool.false_eq_true, if_false]
            cases l <;> rfl
          · have : (a1_1 == 1) = false := beq_eq_false_iff_ne.mpr h2
            simp [h1, h2]
        · have : (a0_1 == 1) = false := beq_eq_false_iff_ne.mpr h1
          simp [h1]
  simp only [hj]
  generalize nearB a0_3 a0_4 a0_5 a0_6 a0_7 a1_3 a1_4 a1_5 a1_6 a1_7 a3_18 = t
  generalize laterB a1_4 a1_5 a0_4 a0_5 = l
  unfold skipsB
  cases a2 with
  | false => cases a3_5 <;> simp
  | true =>
    by_cases h1 : a0_1 = 2
    · have e1 : (a0_1 == 2) = true := beq_iff_eq.mpr h1
      rw [if_pos h1, e1]
      cases hb : (a1_1 == 2) <;> cases a3_6 <;> cases a3_5 <;> cases a3_4 <;> cases l <;> simp [bne, hb]
    · have e1 : (a0_1 == 2) = false := beq_eq_false_iff_ne.mpr h1
      rw [if_neg h1, e1]
      cases a3_6 <;> cases a3_5 <;> cases a3_4 <;> cases l <;> simp
end Go.Proofs.Ytniedfbchcgaoaa.PA
/-! ### YtniedfbchcgaoaaXQuickTurnedLaw -/
namespace Go.Proofs.Ytniedfbchcgaoaa.PA
open Go.RowKit Go.Proofs.YtniedfbchcgaoaaW.PrintWords Go.Proofs.YtniedfbchcgaoaaW.PrintLast Go.Proofs.YtniedfbchcgaoaaW.PrintMore
attribute [local go_sem] max2_int min2_int max_two min_two max_three min_three max_four min_four
set_option linter.unusedVariables false
set_option linter.unusedSimpArgs false
def wf23 (n : Nat) (x : S23) : Prop := ((Lit.int .i64 x.f0).wf = true) ∧ ((Lit.int .i64 x.f1).wf = true) ∧ ((Lit.int .i64 x.f2).wf = true) ∧ ((Lit.int .i64 x.f3).wf = true) ∧ ((Lit.int .i64 x.f4).wf = true)
theorem opn23 : Opn Try.prog 23 k23 wf23 := opn_struct (fun x : S23 => (x.f0, x.f1, x.f2, x.f3, x.f4)) (fun a => (⟨a.1, a.2.1, a.2.2.1, a.2.2.2.1, a.2.2.2.2⟩ : S23)) (fun _ => rfl) Try.underlying23 (opnF_cons rfl (opn_int Try.underlying3 (by kernel_rfl)) rfl (opnF_cons rfl (opn_int Try.underlying3 (by kernel_rfl)) rfl (opnF_cons rfl (opn_int Try.underlying3 (by kernel_rfl)) rfl (opnF_cons rfl (opn_int Try.underlying3 (by kernel_rfl)) rfl (opnF_one rfl (opn_int Try.underlying3 (by kernel_rfl))))))) (by kernel_rfl)
def wf25 (n : Nat) (x : S25) : Prop := (x.f0.size < n ∧ x.f0.size ≤ maxLen) ∧ ((Lit.int .i64 x.f1).wf = true) ∧ ((Lit.int .i64 x.f2).wf = true) ∧ (wf23 n x.f3) ∧ (x.f4.size < n ∧ x.f4.size ≤ maxLen) ∧ (x.f5.size < n ∧ x.f5.size ≤ maxLen) ∧ ((Lit.int .i64 x.f6).wf = true)
theorem opn25 : Opn Try.prog 25 k25 wf25 := opn_struct (fun x : S25 => (x.f0, x.f1, x.f2, x.f3, x.f4, x.f5, x.f6)) (fun a => (⟨a.1, a.2.1, a.2.2.1, a.2.2.2.1, a.2.2.2.2.1, a.2.2.2.2.2.1, a.2.2.2.2.2.2⟩ : S25)) (fun _ => rfl) Try.underlying25 (opnF_cons rfl (opn_string Try.underlying9 (by kernel_rfl)) rfl (opnF_cons rfl (opn_int Try.underlying3 (by kernel_rfl)) rfl (opnF_cons rfl (opn_int Try.underlying3 (by kernel_rfl)) rfl (opnF_cons rfl opn23 rfl (opnF_cons rfl (opn_string Try.underlying9 (by kernel_rfl)) rfl (opnF_cons rfl (opn_string Try.underlying9 (by kernel_rfl)) rfl (opnF_one rfl (opn_int Try.underlying3 (by kernel_rfl))))))))) (by kernel_rfl)
def wf27 (n : Nat) (x : S27) : Prop := ((Lit.int .i64 x.f0).wf = true) ∧ ((Lit.int .i64 x.f1).wf = true) ∧ (True) ∧ (True) ∧ (True) ∧ (True) ∧ (True) ∧ (True) ∧ (True) ∧ (True) ∧ (True) ∧ (True) ∧ (True) ∧ (True) ∧ (True) ∧ (True) ∧ (True) ∧ (True) ∧ ((Lit.int .i64 x.f18).wf = true) ∧ ((Lit.int .i64 x.f19).wf = true) ∧ ((Lit.int .i64 x.f20).wf = true)
theorem opn27 : Opn Try.prog 27 k27 wf27 := opn_struct (fun x : S27 => (x.f0, x.f1, x.f2, x.f3, x.f4, x.f5, x.f6, x.f7, x.f8, x.f9, x.f10, x.f11, x.f12, x.f13, x.f14, x.f15, x.f16, x.f17, x.f18, x.f19, x.f20)) (fun a => (⟨a.1, a.2.1, a.2.2.1, a.2.2.2.1, a.2.2.2.2.1, a.2.2.2.2.2.1, a.2.2.2.2.2.2.1, a.2.2.2.2.2.2.2.1, a.2.2.2.2.2.2.2.2.1, a.2.2.2.2.2.2.2.2.2.1, a.2.2.2.2.2.2.2.2.2.2.1, a.2.2.2.2.2.2.2.2.2.2.2.1, a.2.2.2.2.2.2.2.2.2.2.2.2.1, a.2.2.2.2.2.2.2.2.2.2.2.2.2.1, a.2.2.2.2.2.2.2.2.2.2.2.2.2.2.1, a.2.2.2.2.2.2.2.2.2.2.2.2.2.2.2.1, a.2.2.2.2.2.2.2.2.2.2.2.2.2.2.2.2.1, a.2.2.2.2.2.2.2.2.2.2.2.2.2.2.2.2.2.1, a.2.2.2.2.2.2.2.2.2.2.2.2.2.2.2.2.2.2.1, a.2.2.2.2.2.2.2.2.2.2.2.2.2.2.2.2.2.2.2.1, a.2.2.2.2.2.2.2.2.2.2.2.2.2.2.2.2.2.2.2.2⟩ : S27)) (fun _ => rfl) Try.underlying27 (opnF_cons rfl (opn_int Try.underlying3 (by kernel_rfl)) rfl (opnF_cons rfl (opn_int Try.underlying3 (by kernel_rfl)) rfl (opnF_cons rfl (opn_bool Try.underlying4 (by kernel_rfl)) rfl (opnF_cons rfl (opn_bool Try.underlying4 (by kernel_rfl)) rfl (opnF_cons rfl (opn_bool Try.underlying4 (by kernel_rfl)) rfl (opnF_cons rfl (opn_bool Try.underlying4 (by kernel_rfl)) rfl (opnF_cons rfl (opn_bool Try.underlying4 (by kernel_rfl)) rfl (opnF_cons rfl (opn_bool Try.underlying4 (by kernel_rfl)) rfl (opnF_cons rfl (opn_bool Try.underlying4 (by kernel_rfl)) rfl (opnF_cons rfl (opn_bool Try.underlying4 (by kernel_rfl)) rfl (opnF_cons rfl (opn_bool Try.underlying4 (by kernel_rfl)) rfl (opnF_cons rfl (opn_bool Try.underlying4 (by kernel_rfl)) rfl (opnF_cons rfl (opn_bool Try.underlying4 (by kernel_rfl)) rfl (opnF_cons rfl (opn_bool Try.underlying4 (by kernel_rfl)) rfl (opnF_cons rfl (opn_bool Try.underlying4 (by kernel_rfl)) rfl (opnF_cons rfl (opn_bool Try.underlying4 (by kernel_rfl)) rfl (opnF_cons rfl (opn_bool Try.underlying4 (by kernel_rfl)) rfl (opnF_cons rfl (opn_bool Try.underlying4 (by kernel_rfl)) rfl (opnF_cons rfl (opn_int Try.underlying3 (by kernel_rfl)) rfl (opnF_cons rfl (opn_int Try.underlying3 (by kernel_rfl)) rfl (opnF_one rfl (opn_int Try.underlying3 (by kernel_rfl))))))))))))))))))))))) (by kernel_rfl)
theorem bne_comm_i (a b : Int) : (a != b) = (b != a) := by
  simp only [bne, Bool.beq_comm]
theorem beq_comm_l (a b : List UInt8) : (a == b) = (b == a) := Bool.beq_comm
theorem diffD_symm (x0 x1 : S25) (x2 : S27) : diffD x0.f0 x0.f1 x0.f2 x0.f3.f0 x0.f3.f1 x0.f3.f2 x0.f3.f3 x0.f3.f4 x0.f4 x0.f5 x0.f6 x1.f0 x1.f1 x1.f2 x1.f3.f0 x1.f3.f1 x1.f3.f2 x1.f3.f3 x1.f3.f4 x1.f4 x1.f5 x1.f6 x2.f0 x2.f1 x2.f2 x2.f3 x2.f4 x2.f5 x2.f6 x2.f7 x2.f8 x2.f9 x2.f10 x2.f11 x2.f12 x2.f13 x2.f14 x2.f15 x2.f16 x2.f17 x2.f18 x2.f19 x2.f20 = diffD x1.f0 x1.f1 x1.f2 x1.f3.f0 x1.f3.f1 x1.f3.f2 x1.f3.f3 x1.f3.f4 x1.f4 x1.f5 x1.f6 x0.f0 x0.f1 x0.f2 x0.f3.f0 x0.f3.f1 x0.f3.f2 x0.f3.f3 x0.f3.f4 x0.f4 x0.f5 x0.f6 x2.f0 x2.f1 x2.f2 x2.f3 x2.f4 x2.f5 x2.f6 x2.f7 x2.f8 x2.f9 x2.f10 x2.f11 x2.f12 x2.f13 x2.f14 x2.f15 x2.f16 x2.f17 x2.f18 x2.f19 x2.f20 := by
  unfold diffD
  by_cases hk : x0.f1 = x1.f1
  · rw [if_pos hk, if_pos hk.symm, rDiff_sum, rDiff_sum, nearB_symm, hk, bne_comm_i x0.f2, bne_comm_i x0.f3.f0, bne_comm_i x0.f3.f3, bne_comm_i x0.f3.f4, beq_comm_l x0.f4.toList, beq_comm_l x0.f5.toList]
  · rw [if_neg hk, if_neg (fun h => hk h.symm)]
theorem diffD_file (x0 x1 : S25) (x2 : S27) (x3 : ByteArray) (x4 : Int) (h : x1.f1 = 1) : diffD x0.f0 x0.f1 x0.f2 x0.f3.f0 x0.f3.f1 x0.f3.f2 x0.f3.f3 x0.f3.f4 x0.f4 x0.f5 x0.f6 x3 x1.f1 x1.f2 x1.f3.f0 x1.f3.f1 x1.f3.f2 x1.f3.f3 x1.f3.f4 x3 x1.f5 x4 x2.f0 x2.f1 x2.f2 x2.f3 x2.f4 x2.f5 x2.f6 x2.f7 x2.f8 x2.f9 x2.f10 x2.f11 x2.f12 x2.f13 x2.f14 x2.f15 x2.f16 x2.f17 x2.f18 x2.f19 x2.f20 = diffD x0.f0 x0.f1 x0.f2 x0.f3.f0 x0.f3.f1 x0.f3.f2 x0.f3.f3 x0.f3.f4 x0.f4 x0.f5 x0.f6 x1.f0 x1.f1 x1.f2 x1.f3.f0 x1.f3.f1 x1.f3.f2 x1.f3.f3 x1.f3.f4 x1.f4 x1.f5 x1.f6 x2.f0 x2.f1 x2.f2 x2.f3 x2.f4 x2.f5 x2.f6 x2.f7 x2.f8 x2.f9 x2.f10 x2.f11 x2.f12 x2.f13 x2.f14 x2.f15 x2.f16 x2.f17 x2.f18 x2.f19 x2.f20 := by
  unfold diffD
  by_cases hk : x0.f1 = x1.f1
  · rw [if_pos hk, if_pos hk, rDiff_sum, rDiff_sum, hk, h]
    rfl
  · rw [if_neg hk, if_neg hk]
theorem diffD_other (x0 x1 : S25) (x2 : S27) (x3 : ByteArray) (x4 : Int) (h : ¬ x1.f1 = 1) : diffD x0.f0 x0.f1 x0.f2 x0.f3.f0 x0.f3.f1 x0.f3.f2 x0.f3.f3 x0.f3.f4 x0.f4 x0.f5 x0.f6 x3 x1.f1 x4 x1.f3.f0 x1.f3.f1 x1.f3.f2 x1.f3.f3 x1.f3.f4 x1.f4 x3 x4 x2.f0 x2.f1 x2.f2 x2.f3 x2.f4 x2.f5 x2.f6 x2.f7 x2.f8 x2.f9 x2.f10 x2.f11 x2.f12 x2.f13 x2.f14 x2.f15 x2.f16 x2.f17 x2.f18 x2.f19 x2.f20 = diffD x0.f0 x0.f1 x0.f2 x0.f3.f0 x0.f3.f1 x0.f3.f2 x0.f3.f3 x0.f3.f4 x0.f4 x0.f5 x0.f6 x1.f0 x1.f1 x1.f2 x1.f3.f0 x1.f3.f1 x1.f3.f2 x1.f3.f3 x1.f3.f4 x1.f4 x1.f5 x1.f6 x2.f0 x2.f1 x2.f2 x2.f3 x2.f4 x2.f5 x2.f6 x2.f7 x2.f8 x2.f9 x2.f10 x2.f11 x2.f12 x2.f13 x2.f14 x2.f15 x2.f16 x2.f17 x2.f18 x2.f19 x2.f20 := by
  unfold diffD
  by_cases hk : x0.f1 = x1.f1
  · have e : (x1.f1 == 1) = false := beq_eq_false_iff_ne.mpr h
    rw [if_pos hk, if_pos hk, rDiff_sum, rDiff_sum, hk, e]
    rfl
  · rw [if_neg hk, if_neg hk]
theorem quickTurned_law (x0 : S25) (h0 : ∃ n, wf25 n x0) (x1 : S25) (h1 : ∃ n, wf25 n x1) (x2 : S27) (h2 : ∃ n, wf27 n x2) (x3 : ByteArray) (h3 : ∃ n, x3.size < n ∧ x3.size ≤ maxLen) (x4 : Int) (h4 : ∃ n : Nat, (Lit.int .i64 x4).wf = true) (w : World) :
    Calls Try.prog 7 #[.agg #[.string x0.f0, .int .i64 x0.f1, .int .i64 x0.f2, .int .i64 x0.f3.f0, .int .i64 x0.f3.f1, .int .i64 x0.f3.f2, .int .i64 x0.f3.f3, .int .i64 x0.f3.f4, .string x0.f4, .string x0.f5, .int .i64 x0.f6], .agg #[.string x1.f0, .int .i64 x1.f1, .int .i64 x1.f2, .int .i64 x1.f3.f0, .int .i64 x1.f3.f1, .int .i64 x1.f3.f2, .int .i64 x1.f3.f3, .int .i64 x1.f3.f4, .string x1.f4, .string x1.f5, .int .i64 x1.f6], .agg #[.int .i64 x2.f0, .int .i64 x2.f1, .bool x2.f2, .bool x2.f3, .bool x2.f4, .bool x2.f5, .bool x2.f6, .bool x2.f7, .bool x2.f8, .bool x2.f9, .bool x2.f10, .bool x2.f11, .bool x2.f12, .bool x2.f13, .bool x2.f14, .bool x2.f15, .bool x2.f16, .bool x2.f17, .int .i64 x2.f18, .int .i64 x2.f19, .int .i64 x2.f20], .string x3, .int .i64 x4] w fun e w' => e = .returned (.bool true) ∧ Below w.heap.size w w' := by
  by_cases hk : x1.f1 = 1
  · exact quickTurned_f _ _ _ _ rfl rfl ⟨by simp [Value.oneCell']⟩ rfl x3 x4 _ _ _ rfl rfl (beq_iff_eq.mpr hk) ⟨fun w => quick_Diff.calls _ _ _ _ _ _ _ _ _ _ _ _ _ _ _ _ _ _ _ _ _ _ _ _ _ _ _ _ _ _ _ _ _ _ _ _ _ _ _ _ _ _ _ _ w (diff_prog _ _ _ _ _ _ _ _ _ _ _ _ _ _ _ _ _ _ _ _ _ _ _ _ _ _ _ _ _ _ _ _ _ _ _ _ _ _ _ _ _ _ _)⟩ ⟨fun w => quick_Diff.calls _ _ _ _ _ _ _ _ _ _ _ _ _ _ _ _ _ _ _ _ _ _ _ _ _ _ _ _ _ _ _ _ _ _ _ _ _ _ _ _ _ _ _ _ w ((diff_prog x1.f0 x1.f1 x1.f2 x1.f3.f0 x1.f3.f1 x1.f3.f2 x1.f3.f3 x1.f3.f4 x1.f4 x1.f5 x1.f6 x0.f0 x0.f1 x0.f2 x0.f3.f0 x0.f3.f1 x0.f3.f2 x0.f3.f3 x0.f3.f4 x0.f4 x0.f5 x0.f6 x2.f0 x2.f1 x2.f2 x2.f3 x2.f4 x2.f5 x2.f6 x2.f7 x2.f8 x2.f9 x2.f10 x2.f11 x2.f12 x2.f13 x2.f14 x2.f15 x2.f16 x2.f17 x2.f18 x2.f19 x2.f20).trans (congrArg some (diffD_symm x1 x0 x2)))⟩ ⟨fun w => quick_Diff.calls x0.f0 x0.f1 x0.f2 x0.f3.f0 x0.f3.f1 x0.f3.f2 x0.f3.f3 x0.f3.f4 x0.f4 x0.f5 x0.f6 x3 x1.f1 x1.f2 x1.f3.f0 x1.f3.f1 x1.f3.f2 x1.f3.f3 x1.f3.f4 x3 x1.f5 x4 x2.f0 x2.f1 x2.f2 x2.f3 x2.f4 x2.f5 x2.f6 x2.f7 x2.f8 x2.f9 x2.f10 x2.f11 x2.f12 x2.f13 x2.f14 x2.f15 x2.f16 x2.f17 x2.f18 x2.f19 x2.f20 _ w ((diff_prog x0.f0 x0.f1 x0.f2 x0.f3.f0 x0.f3.f1 x0.f3.f2 x0.f3.f3 x0.f3.f4 x0.f4 x0.f5 x0.f6 x3 x1.f1 x1.f2 x1.f3.f0 x1.f3.f1 x1.f3.f2 x1.f3.f3 x1.f3.f4 x3 x1.f5 x4 x2.f0 x2.f1 x2.f2 x2.f3 x2.f4 x2.f5 x2.f6 x2.f7 x2.f8 x2.f9 x2.f10 x2.f11 x2.f12 x2.f13 x2.f14 x2.f15 x2.f16 x2.f17 x2.f18 x2.f19 x2.f20).trans (congrArg some (diffD_file x0 x1 x2 x3 x4 hk)))⟩ ⟨fun w => quick_Skips.calls x0.f0 x0.f1 x0.f2 x0.f3.f0 x0.f3.f1 x0.f3.f2 x0.f3.f3 x0.f3.f4 x0.f4 x0.f5 x0.f6 x3 x1.f1 x1.f2 x1.f3.f0 x1.f3.f1 x1.f3.f2 x1.f3.f3 x1.f3.f4 x3 x1.f5 x4 true x2.f0 x2.f1 x2.f2 x2.f3 x2.f4 x2.f5 x2.f6 x2.f7 x2.f8 x2.f9 x2.f10 x2.f11 x2.f12 x2.f13 x2.f14 x2.f15 x2.f16 x2.f17 x2.f18 x2.f19 x2.f20 _ w (skips_prog x0.f0 x0.f1 x0.f2 x0.f3.f0 x0.f3.f1 x0.f3.f2 x0.f3.f3 x0.f3.f4 x0.f4 x0.f5 x0.f6 x3 x1.f1 x1.f2 x1.f3.f0 x1.f3.f1 x1.f3.f2 x1.f3.f3 x1.f3.f4 x3 x1.f5 x4 true x2.f0 x2.f1 x2.f2 x2.f3 x2.f4 x2.f5 x2.f6 x2.f7 x2.f8 x2.f9 x2.f10 x2.f11 x2.f12 x2.f13 x2.f14 x2.f15 x2.f16 x2.f17 x2.f18 x2.f19 x2.f20)⟩ ⟨fun w => quick_Skips.calls x0.f0 x0.f1 x0.f2 x0.f3.f0 x0.f3.f1 x0.f3.f2 x0.f3.f3 x0.f3.f4 x0.f4 x0.f5 x0.f6 x1.f0 x1.f1 x1.f2 x1.f3.f0 x1.f3.f1 x1.f3.f2 x1.f3.f3 x1.f3.f4 x1.f4 x1.f5 x1.f6 true x2.f0 x2.f1 x2.f2 x2.f3 x2.f4 x2.f5 x2.f6 x2.f7 x2.f8 x2.f9 x2.f10 x2.f11 x2.f12 x2.f13 x2.f14 x2.f15 x2.f16 x2.f17 x2.f18 x2.f19 x2.f20 _ w (skips_prog x0.f0 x0.f1 x0.f2 x0.f3.f0 x0.f3.f1 x0.f3.f2 x0.f3.f3 x0.f3.f4 x0.f4 x0.f5 x0.f6 x1.f0 x1.f1 x1.f2 x1.f3.f0 x1.f3.f1 x1.f3.f2 x1.f3.f3 x1.f3.f4 x1.f4 x1.f5 x1.f6 true x2.f0 x2.f1 x2.f2 x2.f3 x2.f4 x2.f5 x2.f6 x2.f7 x2.f8 x2.f9 x2.f10 x2.f11 x2.f12 x2.f13 x2.f14 x2.f15 x2.f16 x2.f17 x2.f18 x2.f19 x2.f20)⟩ ⟨awake_call⟩ w
  · exact quickTurned_n _ _ _ _ rfl rfl ⟨by simp [Value.oneCell']⟩ rfl x3 x4 _ _ _ rfl rfl (beq_eq_false_iff_ne.mpr hk) ⟨fun w => quick_Diff.calls _ _ _ _ _ _ _ _ _ _ _ _ _ _ _ _ _ _ _ _ _ _ _ _ _ _ _ _ _ _ _ _ _ _ _ _ _ _ _ _ _ _ _ _ w (diff_prog _ _ _ _ _ _ _ _ _ _ _ _ _ _ _ _ _ _ _ _ _ _ _ _ _ _ _ _ _ _ _ _ _ _ _ _ _ _ _ _ _ _ _)⟩ ⟨fun w => quick_Diff.calls _ _ _ _ _ _ _ _ _ _ _ _ _ _ _ _ _ _ _ _ _ _ _ _ _ _ _ _ _ _ _ _ _ _ _ _ _ _ _ _ _ _ _ _ w ((diff_prog x1.f0 x1.f1 x1.f2 x1.f3.f0 x1.f3.f1 x1.f3.f2 x1.f3.f3 x1.f3.f4 x1.f4 x1.f5 x1.f6 x0.f0 x0.f1 x0.f2 x0.f3.f0 x0.f3.f1 x0.f3.f2 x0.f3.f3 x0.f3.f4 x0.f4 x0.f5 x0.f6 x2.f0 x2.f1 x2.f2 x2.f3 x2.f4 x2.f5 x2.f6 x2.f7 x2.f8 x2.f9 x2.f10 x2.f11 x2.f12 x2.f13 x2.f14 x2.f15 x2.f16 x2.f17 x2.f18 x2.f19 x2.f20).trans (congrArg some (diffD_symm x1 x0 x2)))⟩ ⟨fun w => quick_Diff.calls x0.f0 x0.f1 x0.f2 x0.f3.f0 x0.f3.f1 x0.f3.f2 x0.f3.f3 x0.f3.f4 x0.f4 x0.f5 x0.f6 x3 x1.f1 x4 x1.f3.f0 x1.f3.f1 x1.f3.f2 x1.f3.f3 x1.f3.f4 x1.f4 x3 x4 x2.f0 x2.f1 x2.f2 x2.f3 x2.f4 x2.f5 x2.f6 x2.f7 x2.f8 x2.f9 x2.f10 x2.f11 x2.f12 x2.f13 x2.f14 x2.f15 x2.f16 x2.f17 x2.f18 x2.f19 x2.f20 _ w ((diff_prog x0.f0 x0.f1 x0.f2 x0.f3.f0 x0.f3.f1 x0.f3.f2 x0.f3.f3 x0.f3.f4 x0.f4 x0.f5 x0.f6 x3 x1.f1 x4 x1.f3.f0 x1.f3.f1 x1.f3.f2 x1.f3.f3 x1.f3.f4 x1.f4 x3 x4 x2.f0 x2.f1 x2.f2 x2.f3 x2.f4 x2.f5 x2.f6 x2.f7 x2.f8 x2.f9 x2.f10 x2.f11 x2.f12 x2.f13 x2.f14 x2.f15 x2.f16 x2.f17 x2.f18 x2.f19 x2.f20).trans (congrArg some (diffD_other x0 x1 x2 x3 x4 hk)))⟩ ⟨fun w => quick_Skips.calls x0.f0 x0.f1 x0.f2 x0.f3.f0 x0.f3.f1 x0.f3.f2 x0.f3.f3 x0.f3.f4 x0.f4 x0.f5 x0.f6 x3 x1.f1 x4 x1.f3.f0 x1.f3.f1 x1.f3.f2 x1.f3.f3 x1.f3.f4 x1.f4 x3 x4 true x2.f0 x2.f1 x2.f2 x2.f3 x2.f4 x2.f5 x2.f6 x2.f7 x2.f8 x2.f9 x2.f10 x2.f11 x2.f12 x2.f13 x2.f14 x2.f15 x2.f16 x2.f17 x2.f18 x2.f19 x2.f20 _ w (skips_prog x0.f0 x0.f1 x0.f2 x0.f3.f0 x0.f3.f1 x0.f3.f2 x0.f3.f3 x0.f3.f4 x0.f4 x0.f5 x0.f6 x3 x1.f1 x4 x1.f3.f0 x1.f3.f1 x1.f3.f2 x1.f3.f3 x1.f3.f4 x1.f4 x3 x4 true x2.f0 x2.f1 x2.f2 x2.f3 x2.f4 x2.f5 x2.f6 x2.f7 x2.f8 x2.f9 x2.f10 x2.f11 x2.f12 x2.f13 x2.f14 x2.f15 x2.f16 x2.f17 x2.f18 x2.f19 x2.f20)⟩ ⟨fun w => quick_Skips.calls x0.f0 x0.f1 x0.f2 x0.f3.f0 x0.f3.f1 x0.f3.f2 x0.f3.f3 x0.f3.f4 x0.f4 x0.f5 x0.f6 x1.f0 x1.f1 x1.f2 x1.f3.f0 x1.f3.f1 x1.f3.f2 x1.f3.f3 x1.f3.f4 x1.f4 x1.f5 x1.f6 true x2.f0 x2.f1 x2.f2 x2.f3 x2.f4 x2.f5 x2.f6 x2.f7 x2.f8 x2.f9 x2.f10 x2.f11 x2.f12 x2.f13 x2.f14 x2.f15 x2.f16 x2.f17 x2.f18 x2.f19 x2.f20 _ w (skips_prog x0.f0 x0.f1 x0.f2 x0.f3.f0 x0.f3.f1 x0.f3.f2 x0.f3.f3 x0.f3.f4 x0.f4 x0.f5 x0.f6 x1.f0 x1.f1 x1.f2 x1.f3.f0 x1.f3.f1 x1.f3.f2 x1.f3.f3 x1.f3.f4 x1.f4 x1.f5 x1.f6 true x2.f0 x2.f1 x2.f2 x2.f3 x2.f4 x2.f5 x2.f6 x2.f7 x2.f8 x2.f9 x2.f10 x2.f11 x2.f12 x2.f13 x2.f14 x2.f15 x2.f16 x2.f17 x2.f18 x2.f19 x2.f20)⟩ ⟨awake_call⟩ w
end Go.Proofs.Ytniedfbchcgaoaa.PA
namespace Go.Proofs.Ytniedfbchcgaoaa.quickTurnedRow
open Go.ChangeShapes Go.WideShapes Go.ChangeAt Go.RowKit Go.Proofs.Ytniedfbchcgaoaa.PA Go.Proofs.YtniedfbchcgaoaaW.PrintWords Go.Proofs.YtniedfbchcgaoaaW.PrintLast Go.Proofs.YtniedfbchcgaoaaW.PrintMore
open Go.ChangeMaps (open_string shut_string)
theorem own : ownKnob Try.prog.godebug = none := by kernel_rfl
theorem laidOut : laidOutB Try.prog = true := by kernel_rfl
set_option maxHeartbeats 1000000 in
set_option maxRecDepth 100000 in
theorem lifted (os : Os) (started : os.Started) (H : Type) (enc : TypeId × Value → H) :
    ReturnsInHanded {} Try.checked os 7 .any (Rows.quickTurnedSpec.pre6 enc Try.prog Try.f7 Rows.quickTurnedRow.domain false) (Rows.quickTurnedSpec.post enc Try.prog Try.f7 false true false false) := by
  refine returnsInHanded_of_change_sized (C := Try.checked) own started (by kernel_rfl) Try.func7
    (ChangeSpec.witness6 (enc := enc) (C := Try.checked) false ⟨#[], #[.agg #[.string ByteArray.empty, .int .i64 0, .int .i64 0, .int .i64 0, .int .i64 0, .int .i64 0, .int .i64 0, .int .i64 0, .string ByteArray.empty, .string ByteArray.empty, .int .i64 0], .agg #[.string ByteArray.empty, .int .i64 0, .int .i64 0, .int .i64 0, .int .i64 0, .int .i64 0, .int .i64 0, .int .i64 0, .string ByteArray.empty, .string ByteArray.empty, .int .i64 0], .agg #[.int .i64 0, .int .i64 0, .bool false, .bool false, .bool false, .bool false, .bool false, .bool false, .bool false, .bool false, .bool false, .bool false, .bool false, .bool false, .bool false, .bool false, .bool false, .bool false, .int .i64 0, .int .i64 0, .int .i64 0], .string ByteArray.empty, .int .i64 0], []⟩ 8 (by kernel_rfl) (by kernel_rfl) (by kernel_rfl) (by kernel_rfl)) ?_
  intro W base args ds gs before hval0 hW hcnd hsz0 _
  have hval : ∀ (j : Nat) t v, Try.f7.params[j]? = some t → args[j]? = some v → Value.okWide Try.prog W .any base t v := hval0
  have hW' := hW
  obtain ⟨p, q, hA0, hV, rfl, hfz, hnd⟩ := hW
  have hA : DataW.TrodAll enc Try.prog W 0 (fun _ => true) true Try.f7.params.toList args.toList ds p := hA0
  rw [Try.params7] at hA hval
  obtain ⟨v0, vs0, d0, ds0, p0, q0, hargs, rfl, rfl, h0, r0⟩ := trodAll_cons hA
  obtain ⟨v1, vs1, d1, ds1, p1, q1, rfl, rfl, rfl, h1, r1⟩ := trodAll_cons r0
  obtain ⟨v2, vs2, d2, ds2, p2, q2, rfl, rfl, rfl, h2, r2⟩ := trodAll_cons r1
  obtain ⟨v3, vs3, d3, ds3, p3, q3, rfl, rfl, rfl, h3, r3⟩ := trodAll_cons r2
  obtain ⟨v4, vs4, d4, ds4, p4, q4, rfl, rfl, rfl, h4, r4⟩ := trodAll_cons r3
  obtain ⟨rfl, rfl, rfl⟩ := trodAll_nil r4
  obtain rfl : args = #[v0, v1, v2, v3, v4] := by cases args; simp_all
  obtain ⟨rfl, rfl⟩ := trodVars_none hV
  obtain ⟨cs0, rfl, _⟩ := okWide_struct Try.underlying25 (hval 0 25 v0 rfl rfl)
  have k0 := h0
  have lt0 : ∀ x ∈ p0, x.block < W.heap.size := by obtain ⟨m, hm⟩ := k0; exact DataW.trod_lt m _ _ _ hm
  obtain ⟨fu0, hf0⟩ := h0
  obtain ⟨x0, hk0, hw0⟩ := (show Opn Try.prog 25 k25 (fun n x => wf25 n x) from opn25).op enc W 0 _ true fu0 _ _ hf0
  have e0 := k25_open hk0
  obtain rfl : cs0 = #[.string x0.f0, .int .i64 x0.f1, .int .i64 x0.f2, .int .i64 x0.f3.f0, .int .i64 x0.f3.f1, .int .i64 x0.f3.f2, .int .i64 x0.f3.f3, .int .i64 x0.f3.f4, .string x0.f4, .string x0.f5, .int .i64 x0.f6] := by cases cs0; simpa [Value.cells] using e0
  obtain ⟨cs1, rfl, _⟩ := okWide_struct Try.underlying25 (hval 1 25 v1 rfl rfl)
  have k1 := h1
  have lt1 : ∀ x ∈ p1, x.block < W.heap.size := by obtain ⟨m, hm⟩ := k1; exact DataW.trod_lt m _ _ _ hm
  obtain ⟨fu1, hf1⟩ := h1
  obtain ⟨x1, hk1, hw1⟩ := (show Opn Try.prog 25 k25 (fun n x => wf25 n x) from opn25).op enc W 0 _ true fu1 _ _ hf1
  have e1 := k25_open hk1
  obtain rfl : cs1 = #[.string x1.f0, .int .i64 x1.f1, .int .i64 x1.f2, .int .i64 x1.f3.f0, .int .i64 x1.f3.f1, .int .i64 x1.f3.f2, .int .i64 x1.f3.f3, .int .i64 x1.f3.f4, .string x1.f4, .string x1.f5, .int .i64 x1.f6] := by cases cs1; simpa [Value.cells] using e1
  obtain ⟨cs2, rfl, _⟩ := okWide_struct Try.underlying27 (hval 2 27 v2 rfl rfl)
  have k2 := h2
  have lt2 : ∀ x ∈ p2, x.block < W.heap.size := by obtain ⟨m, hm⟩ := k2; exact DataW.trod_lt m _ _ _ hm
  obtain ⟨fu2, hf2⟩ := h2
  obtain ⟨x2, hk2, hw2⟩ := (show Opn Try.prog 27 k27 (fun n x => wf27 n x) from opn27).op enc W 0 _ true fu2 _ _ hf2
  have e2 := k27_open hk2
  obtain rfl : cs2 = #[.int .i64 x2.f0, .int .i64 x2.f1, .bool x2.f2, .bool x2.f3, .bool x2.f4, .bool x2.f5, .bool x2.f6, .bool x2.f7, .bool x2.f8, .bool x2.f9, .bool x2.f10, .bool x2.f11, .bool x2.f12, .bool x2.f13, .bool x2.f14, .bool x2.f15, .bool x2.f16, .bool x2.f17, .int .i64 x2.f18, .int .i64 x2.f19, .int .i64 x2.f20] := by cases cs2; simpa [Value.cells] using e2
  obtain ⟨y3, rfl⟩ := okWide_string Try.underlying9 (hval 3 9 v3 rfl rfl)
  have k3 := h3
  have lt3 : ∀ x ∈ p3, x.block < W.heap.size := by obtain ⟨m, hm⟩ := k3; exact DataW.trod_lt m _ _ _ hm
  obtain ⟨fu3, hf3⟩ := h3
  obtain ⟨x3, hk3, hw3⟩ := (show Opn Try.prog 9 Kd.string (fun n x => x.size < n ∧ x.size ≤ maxLen) from (opn_string Try.underlying9 (by kernel_rfl))).op enc W 0 _ true fu3 _ _ hf3
  have e3 := (List.cons.inj hk3).1
  injection e3 with e3
  have e3 := e3.symm
  subst e3
  obtain ⟨y4, rfl⟩ := okWide_int Try.underlying3 (hval 4 3 v4 rfl rfl)
  have k4 := h4
  have lt4 : ∀ x ∈ p4, x.block < W.heap.size := by obtain ⟨m, hm⟩ := k4; exact DataW.trod_lt m _ _ _ hm
  obtain ⟨fu4, hf4⟩ := h4
  obtain ⟨x4, hk4, hw4⟩ := (show Opn Try.prog 3 (Kd.int .i64) (fun n x => (Lit.int .i64 x).wf = true) from (opn_int Try.underlying3 (by kernel_rfl))).op enc W 0 _ true fu4 _ _ hf4
  have e4 := (List.cons.inj hk4).1
  injection e4 with _ e4
  have e4 := e4.symm
  subst e4
  refine (quickTurned_law x0 ⟨Rows.uptoBulk d0, hw0⟩ x1 ⟨Rows.uptoBulk d1, hw1⟩ x2 ⟨Rows.uptoBulk d2, hw2⟩ x3 ⟨Rows.uptoBulk d3, hw3⟩ x4 ⟨Rows.uptoBulk d4, hw4⟩ W).mono fun e W' ⟨he, bel⟩ => ?_
  subst he
  exact ⟨_, rfl, _, _, _, [], _, [], hW', trodAll_mk1 (shut_bool Try.underlying4 _), (trodAll_cons_mk (Below.trod laidOut (by kernel_rfl) (of_decide_eq_true (by kernel_rfl)) k0 bel lt0) (trodAll_cons_mk (Below.trod laidOut (by kernel_rfl) (of_decide_eq_true (by kernel_rfl)) k1 bel lt1) (trodAll_cons_mk (Below.trod laidOut (by kernel_rfl) (of_decide_eq_true (by kernel_rfl)) k2 bel lt2) (trodAll_cons_mk (Below.trod laidOut (by kernel_rfl) (of_decide_eq_true (by kernel_rfl)) k3 bel lt3) (trodAll_cons_mk (Below.trod laidOut (by kernel_rfl) (of_decide_eq_true (by kernel_rfl)) k4 bel lt4) trodAll_mk0))))), rfl, bel.frame _, fun h => by cases h⟩
theorem over : Rows.quickTurnedRow.holds Try.pinned (OpenSpec.ofChange Rows.quickTurnedSpec) :=
  OpenClaim.holds_of_wide 7 Try.f7 rfl rfl rfl rfl rfl rfl rfl ⟨rfl, rfl, rfl, rfl, rfl⟩ rfl rfl rfl rfl rfl (by kernel_rfl) Try.func7 (by kernel_rfl)
    (of_decide_eq_true (by kernel_rfl)) (by unfold Func.isWrapper; first | (rw [if_pos (by decide +kernel)]; kernel_rfl) | (rw [if_neg (by decide +kernel)]; exact ⟨rfl, rfl⟩))
    (fun os started H enc _ => lifted os started H enc)
theorem proved : Rows.QuickTurnedSaid := over
#print axioms proved
end Go.Proofs.Ytniedfbchcgaoaa.quickTurnedRow
namespace Go.Proofs.Ytniedfbchcgaoaa
/-- The row, under a short name, for the claim. -/
theorem quickTurned_holds : Rows.QuickTurnedSaid := quickTurnedRow.proved
end Go.Proofs.Ytniedfbchcgaoaa
namespace Go.Proofs.Ytniedfbchcgaoaa.PA
end Go.Proofs.Ytniedfbchcgaoaa.PA
