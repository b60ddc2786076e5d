/- Plain law: the program's and the reference's Near tell the same of any two Metas and window. -/
import Derived.Test.YtniedfbchcgaoaaPAfmetaNear
import Derived.Test.YtniedfbchcgaoaaPAfremoraref16Check
import Derived.Test.YtniedfbchcgaoaaPAfremoraref16Near
import Derived.Test.YtniedfbchcgaoaaPAfremoraref16in
import Derived.Test.YtniedfbchcgaoaaPAx0
import Derived.Test.YtniedfbchcgaoaaXmetaCheck
namespace Go.Proofs.Ytniedfbchcgaoaa.PA
open Go.RowKit Go.Proofs.YtniedfbchcgaoaaW.PrintWords Go.Proofs.YtniedfbchcgaoaaW.PrintLast Go.Proofs.YtniedfbchcgaoaaW.PrintMore
attribute [local go_sem] max2_int min2_int max_two min_two max_three min_three max_four min_four
set_option linter.unusedVariables false
set_option linter.unusedSimpArgs false
theorem w64 {x : Int} (h1 : -9223372036854775808 ≤ x) (h2 : x ≤ 9223372036854775807) : wrap64 x = x := by
  unfold wrap64
  omega
theorem refIn_f (a lo hi : Int) : remoraref16_in.f a lo hi = some (metaIn a lo hi) := by
  unfold remoraref16_in.f metaIn
  by_cases h : a ≥ lo
  · rw [if_pos h]
    have : decide (lo ≤ a) = true := decide_eq_true h
    simp [this]
  · rw [if_neg h]
    have : decide (lo ≤ a) = false := decide_eq_false h
    simp [this]
theorem refCheck_f (a b c d e : Int) : remoraref16_Check.f a b c d e = some (if metaOk a b c d e = true then 0 else 2) := by
  unfold remoraref16_Check.f metaOk
  simp only [refIn_f, Option.bind_some]
  cases metaIn a 0 4095 <;> cases metaIn b (-1099511627776) 1099511627776 <;> cases metaIn c 0 999999999 <;> cases metaIn d 0 2147483647 <;> cases metaIn e 0 2147483647 <;> rfl
theorem metaOk_bd {a b c d e : Int} (h : metaOk a b c d e = true) : (0 ≤ a ∧ a ≤ 4095) ∧ (-1099511627776 ≤ b ∧ b ≤ 1099511627776) ∧ (0 ≤ c ∧ c ≤ 999999999) ∧ (0 ≤ d ∧ d ≤ 2147483647) ∧ (0 ≤ e ∧ e ≤ 2147483647) := by
  unfold metaOk metaIn at h
  simp only [Bool.and_eq_true, decide_eq_true_eq] at h
  omega
def nearD (win s n : Int) : Bool := if s < 0 ∨ (s = 0 ∧ n < 0) then (decide (-s < win) || (decide (-s = win) && decide (-n ≤ 0))) else (decide (s < win) || (decide (s = win) && decide (n ≤ 0)))
theorem near_prog (k : Nat) (x2 a0 a1 a2 a3 a4 b0 b1 b2 b3 b4 : Int) (ha : -1099511627776 ≤ a1 ∧ a1 ≤ 1099511627776) (ha2 : 0 ≤ a2 ∧ a2 ≤ 999999999) (hb : -1099511627776 ≤ b1 ∧ b1 ≤ 1099511627776) (hb2 : 0 ≤ b2 ∧ b2 ≤ 999999999) :
    meta_Near.j0 (k + 1) x2 false a0 a1 a2 a3 a4 b0 b1 b2 b3 b4 = some (nearD (mn (mx x2 0) 2147483647) (a1 - b1) (a2 - b2)) := by
  simp only [meta_Near.j0, Bool.false_eq_true, if_false]
  rw [w64 (x := a1 - b1) (by omega) (by omega), w64 (x := a2 - b2) (by omega) (by omega), w64 (x := -(a1 - b1)) (by omega) (by omega), w64 (x := -(a2 - b2)) (by omega) (by omega)]
  generalize hs : a1 - b1 = s
  generalize hn : a2 - b2 = n
  generalize mn (mx x2 0) 2147483647 = win
  unfold nearD
  by_cases c1 : s < 0
  · rw [if_pos c1, if_pos (Or.inl c1)]
    by_cases c2 : -s < win
    · simp [c2]
    · by_cases c3 : -s = win <;> simp [c2, c3]
  · rw [if_neg c1]
    by_cases c2 : s = 0
    · rw [if_pos c2]
      by_cases c3 : n < 0
      · rw [if_pos c3, if_pos (Or.inr ⟨c2, c3⟩)]
        by_cases c4 : -s < win
        · simp [c4]
        · by_cases c5 : -s = win <;> simp [c4, c5]
      · have hc : ¬ (s < 0 ∨ (s = 0 ∧ n < 0)) := by omega
        rw [if_neg c3, if_neg hc]
        by_cases c4 : s < win
        · simp [c4]
        · by_cases c5 : s = win <;> simp [c4, c5]
    · have hc : ¬ (s < 0 ∨ (s = 0 ∧ n < 0)) := by omega
      rw [if_neg c2, if_neg hc]
      by_cases c4 : s < win
      · simp [c4]
      · by_cases c5 : s = win <;> simp [c4, c5]
theorem near_j1 (k : Nat) (win s n : Int) (b : Bool) (hs : -2199023255552 ≤ s ∧ s ≤ 2199023255552) (hn : -999999999 ≤ n ∧ n ≤ 999999999) (hb : b = decide (s < 0 ∨ (s = 0 ∧ n < 0))) :
    remoraref16_Near.j1 (k + 1) win s n b = some (nearD win s n) := by
  simp only [remoraref16_Near.j1]
  rw [w64 (x := -n) (by omega) (by omega), w64 (x := -s) (by omega) (by omega), w64 (x := -s - 1) (by omega) (by omega), w64 (x := -n + 1000000000) (by omega) (by omega), w64 (x := s - 1) (by omega) (by omega), w64 (x := n + 1000000000) (by omega) (by omega)]
  unfold nearD
  by_cases c : s < 0 ∨ (s = 0 ∧ n < 0)
  · rw [hb, decide_eq_true c, if_pos rfl, if_pos c]
    by_cases c1 : -n < 0
    · rw [if_pos c1]
      by_cases c2 : -s - 1 < win
      · rw [if_pos c2]
        by_cases c3 : -s < win
        · simp [c3]
        · have : -s = win := by omega
          simp [this]
          omega
      · rw [if_neg c2]
        have h3 : ¬ (-s < win) := by omega
        have h4 : ¬ (-s = win) := by omega
        by_cases c3 : -s - 1 = win
        · rw [if_pos c3]
          have : ¬ (-n + 1000000000 = 0) := by omega
          simp [h3, h4]
          omega
        · simp [c3, h3, h4]
    · rw [if_neg c1]
      by_cases c2 : -s < win
      · simp [c2]
      · by_cases c3 : -s = win
        · have hw : ¬ win < win := by omega
          simp [c3]
          by_cases c4 : n = 0
          · simp [c4]
          · have : ¬ (0 ≤ n) := by omega
            simp [c4, this]
        · simp [c2, c3]
  · rw [hb, decide_eq_false c, if_neg (by simp), if_neg c]
    by_cases c1 : n < 0
    · rw [if_pos c1]
      by_cases c2 : s - 1 < win
      · rw [if_pos c2]
        by_cases c3 : s < win
        · simp [c3]
        · have : s = win := by omega
          simp [this]
          omega
      · rw [if_neg c2]
        have h3 : ¬ (s < win) := by omega
        have h4 : ¬ (s = win) := by omega
        by_cases c3 : s - 1 = win
        · rw [if_pos c3]
          simp [h3, h4]
          omega
        · simp [c3, h3, h4]
    · rw [if_neg c1]
      by_cases c2 : s < win
      · simp [c2]
      · by_cases c3 : s = win
        · simp [c3]
          by_cases c4 : n = 0
          · simp [c4]
          · have : ¬ (n ≤ 0) := by omega
            simp [c4, this]
        · simp [c2, c3]
theorem near_ref (k : Nat) (x2 a0 a1 a2 a3 a4 b0 b1 b2 b3 b4 : Int) (ha : -1099511627776 ≤ a1 ∧ a1 ≤ 1099511627776) (ha2 : 0 ≤ a2 ∧ a2 ≤ 999999999) (hb : -1099511627776 ≤ b1 ∧ b1 ≤ 1099511627776) (hb2 : 0 ≤ b2 ∧ b2 ≤ 999999999) :
    remoraref16_Near.j0 (k + 1 + 1) x2 false a0 a1 a2 a3 a4 b0 b1 b2 b3 b4 = some (nearD (mn (mx x2 0) 2147483647) (a1 - b1) (a2 - b2)) := by
  simp only [remoraref16_Near.j0, Bool.false_eq_true, if_false]
  rw [w64 (x := a1 - b1) (by omega) (by omega), w64 (x := a2 - b2) (by omega) (by omega)]
  by_cases c1 : a1 - b1 < 0
  · rw [if_pos c1]
    exact near_j1 k _ _ _ true (by omega) (by omega) (by simp [c1])
  · rw [if_neg c1]
    by_cases c2 : a1 - b1 = 0
    · rw [if_pos c2]
      refine near_j1 k _ _ _ _ (by omega) (by omega) ?_
      simp [c2]
    · rw [if_neg c2]
      refine near_j1 k _ _ _ false (by omega) (by omega) ?_
      simp [c1, c2]
def nearB (a0 a1 a2 a3 a4 b0 b1 b2 b3 b4 win : Int) : Bool := metaOk a0 a1 a2 a3 a4 && (metaOk b0 b1 b2 b3 b4 && nearD (mn (mx win 0) 2147483647) (a1 - b1) (a2 - b2))
theorem near_progB (a0 a1 a2 a3 a4 b0 b1 b2 b3 b4 win : Int) : meta_Near.f 100 a0 a1 a2 a3 a4 b0 b1 b2 b3 b4 win = some (nearB a0 a1 a2 a3 a4 b0 b1 b2 b3 b4 win) := by
  unfold meta_Near.f meta_Check.f nearB
  simp only [Option.bind_some]
  cases h1 : metaOk a0 a1 a2 a3 a4 with
  | false => rfl
  | true =>
    cases h2 : metaOk b0 b1 b2 b3 b4 with
    | false => rfl
    | true =>
      have q1 := metaOk_bd h1
      have q2 := metaOk_bd h2
      exact near_prog 99 win a0 a1 a2 a3 a4 b0 b1 b2 b3 b4 q1.2.1 q1.2.2.1 q2.2.1 q2.2.2.1
theorem near_refB (k : Nat) (a0 a1 a2 a3 a4 b0 b1 b2 b3 b4 win : Int) : remoraref16_Near.f (k + 1 + 1) a0 a1 a2 a3 a4 b0 b1 b2 b3 b4 win = some (nearB a0 a1 a2 a3 a4 b0 b1 b2 b3 b4 win) := by
  unfold remoraref16_Near.f nearB
  simp only [refCheck_f, Option.bind_some]
  cases h1 : metaOk a0 a1 a2 a3 a4 with
  | false => rfl
  | true =>
    cases h2 : metaOk b0 b1 b2 b3 b4 with
    | false => rfl
    | true =>
      have q1 := metaOk_bd h1
      have q2 := metaOk_bd h2
      exact near_ref k win a0 a1 a2 a3 a4 b0 b1 b2 b3 b4 q1.2.1 q1.2.2.1 q2.2.1 q2.2.2.1
end Go.Proofs.Ytniedfbchcgaoaa.PA
