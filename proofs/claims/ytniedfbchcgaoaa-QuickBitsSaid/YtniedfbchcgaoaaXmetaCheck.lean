/- meta.Check by its contract: 0 (OK) where all five numbers lie in their ranges, else 2 (ErrArg). -/
import Derived.Test.YtniedfbchcgaoaaPAx0
namespace Go.Proofs.Ytniedfbchcgaoaa.PA
open Go.RowKit Go.Proofs.YtniedfbchcgaoaaW.PrintWords Go.Proofs.YtniedfbchcgaoaaW.PrintLast Go.Proofs.YtniedfbchcgaoaaW.PrintMore
attribute [local go_sem] max2_int min2_int max_two min_two max_three min_three max_four min_four
set_option linter.unusedVariables false
set_option linter.unusedSimpArgs false
def metaIn (n lo hi : Int) : Bool := decide (lo ≤ n) && decide (n ≤ hi)
def metaOk (a0_0 a0_1 a0_2 a0_3 a0_4 : Int) : Bool := (metaIn a0_0 0 4095) && (metaIn a0_1 (-1099511627776) 1099511627776) && (metaIn a0_2 0 999999999) && (metaIn a0_3 0 2147483647) && (metaIn a0_4 0 2147483647)
def meta_Check.f (a0_0 a0_1 a0_2 a0_3 a0_4 : Int) : Option Int := some (if metaOk a0_0 a0_1 a0_2 a0_3 a0_4 = true then 0 else 2)
theorem meta_in_call (n lo hi : Int) (w : World) : Calls Try.prog 28 #[.int .i64 n, .int .i64 lo, .int .i64 hi] w fun e w' => e = .returned (.bool (metaIn n lo hi)) ∧ w' = w := by
  by_cases h : lo ≤ n
  · have h1 : decide (lo ≤ n) = true := by simp [h]
    have HR := Aside0.mk (show metaIn n lo hi = decide (n ≤ hi) by simp [metaIn, h])
    go_enter Try.func28, Try.ntmps28
    go_wp2
    go_ret
    refine ⟨?_, rfl⟩
    rw [HR.out]
    rfl
  · have h1 : decide (lo ≤ n) = false := by simp [h]
    have HR := Aside0.mk (show metaIn n lo hi = false by simp [metaIn, h])
    clear h
    go_enter Try.func28, Try.ntmps28
    go_wp2
    go_ret
    refine ⟨?_, rfl⟩
    rw [HR.out]
    rfl
set_option maxHeartbeats 2000000 in
set_option maxRecDepth 100000 in
theorem meta_Check.calls (a0_0 a0_1 a0_2 a0_3 a0_4 : Int) (r : Int) (w : World) (h : meta_Check.f a0_0 a0_1 a0_2 a0_3 a0_4 = some r) :
    Calls Try.prog 19 #[.agg #[.int .i64 a0_0, .int .i64 a0_1, .int .i64 a0_2, .int .i64 a0_3, .int .i64 a0_4]] w fun e w' => e = .returned (.int .i64 r) ∧ Below w.heap.size w w' := by
  have hu := Try.underlying23
  unfold meta_Check.f metaOk at h
  cases h0 : metaIn a0_0 0 4095 with
  | false =>
    simp only [h0, Bool.true_and, Bool.and_true, Bool.false_and, Bool.and_false, if_true, Bool.false_eq_true, if_false] at h
    obtain rfl := Option.some.inj h
    clear h
    go_enter Try.func19, Try.ntmps19
    go_wp2_with (first | (go_at_call 28; refine (meta_in_call _ _ _ _).mono ?_; rintro e w' ⟨rfl, rfl⟩))
    go_ret
    exact ⟨rfl, below_alloc (Below.refl _ _) _⟩
  | true =>
    cases h1 : metaIn a0_1 (-1099511627776) 1099511627776 with
    | false =>
      simp only [h0, h1, Bool.true_and, Bool.and_true, Bool.false_and, Bool.and_false, if_true, Bool.false_eq_true, if_false] at h
      obtain rfl := Option.some.inj h
      clear h
      go_enter Try.func19, Try.ntmps19
      go_wp2_with (first | (go_at_call 28; refine (meta_in_call _ _ _ _).mono ?_; rintro e w' ⟨rfl, rfl⟩))
      go_ret
      exact ⟨rfl, below_alloc (Below.refl _ _) _⟩
    | true =>
      cases h2 : metaIn a0_2 0 999999999 with
      | false =>
        simp only [h0, h1, h2, Bool.true_and, Bool.and_true, Bool.false_and, Bool.and_false, if_true, Bool.false_eq_true, if_false] at h
        obtain rfl := Option.some.inj h
        clear h
        go_enter Try.func19, Try.ntmps19
        go_wp2_with (first | (go_at_call 28; refine (meta_in_call _ _ _ _).mono ?_; rintro e w' ⟨rfl, rfl⟩))
        go_ret
        exact ⟨rfl, below_alloc (Below.refl _ _) _⟩
      | true =>
        cases h3 : metaIn a0_3 0 2147483647 with
        | false =>
          simp only [h0, h1, h2, h3, Bool.true_and, Bool.and_true, Bool.false_and, Bool.and_false, if_true, Bool.false_eq_true, if_false] at h
          obtain rfl := Option.some.inj h
          clear h
          go_enter Try.func19, Try.ntmps19
          go_wp2_with (first | (go_at_call 28; refine (meta_in_call _ _ _ _).mono ?_; rintro e w' ⟨rfl, rfl⟩))
          go_ret
          exact ⟨rfl, below_alloc (Below.refl _ _) _⟩
        | true =>
          cases h4 : metaIn a0_4 0 2147483647 with
          | false =>
            simp only [h0, h1, h2, h3, h4, Bool.true_and, Bool.and_true, Bool.false_and, Bool.and_false, if_true, Bool.false_eq_true, if_false] at h
            obtain rfl := Option.some.inj h
            clear h
            go_enter Try.func19, Try.ntmps19
            go_wp2_with (first | (go_at_call 28; refine (meta_in_call _ _ _ _).mono ?_; rintro e w' ⟨rfl, rfl⟩))
            go_ret
            exact ⟨rfl, below_alloc (Below.refl _ _) _⟩
          | true =>
            simp only [h0, h1, h2, h3, h4, Bool.true_and, Bool.and_true, Bool.false_and, Bool.and_false, if_true, Bool.false_eq_true, if_false] at h
            obtain rfl := Option.some.inj h
            clear h
            go_enter Try.func19, Try.ntmps19
            go_wp2_with (first | (go_at_call 28; refine (meta_in_call _ _ _ _).mono ?_; rintro e w' ⟨rfl, rfl⟩))
            go_ret
            exact ⟨rfl, below_alloc (Below.refl _ _) _⟩
end Go.Proofs.Ytniedfbchcgaoaa.PA
