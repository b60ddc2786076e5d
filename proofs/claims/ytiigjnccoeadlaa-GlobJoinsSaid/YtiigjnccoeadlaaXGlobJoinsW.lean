/- The walk of the law GlobJoins, out of the contracts of what it calls. -/
import Derived.Outline
import Derived.Test.YtiigjnccoeadlaaPAx0
import Derived.Test.YtiigjnccoeadlaaXB1
namespace Go.Proofs.Ytiigjnccoeadlaa.PA
open Go.RowKit Go.Proofs.YtiigjnccoeadlaaW.PrintWords Go.Proofs.YtiigjnccoeadlaaW.PrintLast Go.Proofs.YtiigjnccoeadlaaW.PrintMore
attribute [local go_sem] max2_int min2_int max_two min_two max_three min_three max_four min_four
set_option linter.unusedVariables false
set_option linter.unusedSimpArgs false
set_option maxHeartbeats 4000000 in
set_option maxRecDepth 100000 in
theorem joins_walk (p0 p1 s0 s1 : ByteArray) (m0 m1 mm : Bool) (er : Int) (w : World)
    (hm0 : p0.size ≤ 200 ∧ p1.size ≤ 200 ∧ s0.size ≤ 200 ∧ s1.size ≤ 200 → Aside0 (∀ w_, Calls Try.prog 13 #[.string p0, .string s0] w_ fun e w' => e = .returned (.bool m0) ∧ Below w_.heap.size w_ w'))
    (hm1 : p0.size ≤ 200 ∧ p1.size ≤ 200 ∧ s0.size ≤ 200 ∧ s1.size ≤ 200 → Aside0 (∀ w_, Calls Try.prog 13 #[.string p1, .string s1] w_ fun e w' => e = .returned (.bool m1) ∧ Below w_.heap.size w_ w'))
    (hck : m0 = true → m1 = true → Aside0 (∀ w_, Calls Try.prog 11 #[.string (p0 ++ p1)] w_ fun e w' => e = .returned (.int .i64 er) ∧ Below w_.heap.size w_ w'))
    (hmm : m0 = true → m1 = true → Aside0 (∀ w_, Calls Try.prog 13 #[.string (p0 ++ p1), .string (s0 ++ s1)] w_ fun e w' => e = .returned (.bool mm) ∧ Below w_.heap.size w_ w'))
    (ha : Aside0 (∀ w_, Calls Try.prog 10 #[] w_ fun e w' => e = .returned (.bool true) ∧ Below w_.heap.size w_ w')) (hor : m0 = true → m1 = true → (er = 7 ∧ 100 < p0.size + p1.size) ∨ (er = 0 ∧ mm = true)) :
    Calls Try.prog 5 #[.agg #[.string p0, .string p1], .agg #[.string s0, .string s1]] w fun e w' => e = .returned (.bool true) ∧ Below w.heap.size w w' := by
  have hu := Try.underlying27
  have HB := Aside0.mk (B2.start 27 27 w #[.string p0, .string p1] #[.string s0, .string s1])
  have ha0 := blk_cell HB.out.2.1 0
  have ha1 := blk_cell HB.out.2.1 1
  have hb0 := blk_cell HB.out.2.2 0
  have hb1 := blk_cell HB.out.2.2 1
  change _ = some (Value.string p0) at ha0
  change _ = some (Value.string p1) at ha1
  change _ = some (Value.string s0) at hb0
  change _ = some (Value.string s1) at hb1
  by_cases hp0 : 200 < p0.size
  · have xp0 : ((200 : Int) < (p0.size : Int)) = True := eq_true (by omega)
    have yp0 : (200 < p0.size) = True := eq_true (by omega)
    clear hm0 hm1 hck hmm
    go_enter Try.func5, Try.ntmps5
    go_wp2_with (first | (go_at_call 10; (with_reducible refine (ha.out _).mono ?_); rintro e w2 ⟨rfl, hb⟩; have n0_ := Aside0.mk (B2.step HB.out hb); clear HB hb ha0 ha1 hb0 hb1; have HB := n0_; clear n0_; have ha0 := blk_cell HB.out.2.1 0; have ha1 := blk_cell HB.out.2.1 1; have hb0 := blk_cell HB.out.2.2 0; have hb1 := blk_cell HB.out.2.2 1; change _ = some (Value.string p0) at ha0; change _ = some (Value.string p1) at ha1; change _ = some (Value.string s0) at hb0; change _ = some (Value.string s1) at hb1))
    go_ret
    exact ⟨rfl, HB.out.1⟩
  · have xp0 : ((200 : Int) < (p0.size : Int)) = False := eq_false (by omega)
    have yp0 : (200 < p0.size) = False := eq_false (by omega)
    by_cases hp1 : 200 < p1.size
    · have xp1 : ((200 : Int) < (p1.size : Int)) = True := eq_true (by omega)
      have yp1 : (200 < p1.size) = True := eq_true (by omega)
      clear hm0 hm1 hck hmm
      go_enter Try.func5, Try.ntmps5
      go_wp2_with (first | (go_at_call 10; (with_reducible refine (ha.out _).mono ?_); rintro e w2 ⟨rfl, hb⟩; have n0_ := Aside0.mk (B2.step HB.out hb); clear HB hb ha0 ha1 hb0 hb1; have HB := n0_; clear n0_; have ha0 := blk_cell HB.out.2.1 0; have ha1 := blk_cell HB.out.2.1 1; have hb0 := blk_cell HB.out.2.2 0; have hb1 := blk_cell HB.out.2.2 1; change _ = some (Value.string p0) at ha0; change _ = some (Value.string p1) at ha1; change _ = some (Value.string s0) at hb0; change _ = some (Value.string s1) at hb1))
      go_ret
      exact ⟨rfl, HB.out.1⟩
    · have xp1 : ((200 : Int) < (p1.size : Int)) = False := eq_false (by omega)
      have yp1 : (200 < p1.size) = False := eq_false (by omega)
      by_cases hs0 : 200 < s0.size
      · have xs0 : ((200 : Int) < (s0.size : Int)) = True := eq_true (by omega)
        have ys0 : (200 < s0.size) = True := eq_true (by omega)
        clear hm0 hm1 hck hmm
        go_enter Try.func5, Try.ntmps5
        go_wp2_with (first | (go_at_call 10; (with_reducible refine (ha.out _).mono ?_); rintro e w2 ⟨rfl, hb⟩; have n0_ := Aside0.mk (B2.step HB.out hb); clear HB hb ha0 ha1 hb0 hb1; have HB := n0_; clear n0_; have ha0 := blk_cell HB.out.2.1 0; have ha1 := blk_cell HB.out.2.1 1; have hb0 := blk_cell HB.out.2.2 0; have hb1 := blk_cell HB.out.2.2 1; change _ = some (Value.string p0) at ha0; change _ = some (Value.string p1) at ha1; change _ = some (Value.string s0) at hb0; change _ = some (Value.string s1) at hb1))
        go_ret
        exact ⟨rfl, HB.out.1⟩
      · have xs0 : ((200 : Int) < (s0.size : Int)) = False := eq_false (by omega)
        have ys0 : (200 < s0.size) = False := eq_false (by omega)
        by_cases hs1 : 200 < s1.size
        · have xs1 : ((200 : Int) < (s1.size : Int)) = True := eq_true (by omega)
          have ys1 : (200 < s1.size) = True := eq_true (by omega)
          clear hm0 hm1 hck hmm
          go_enter Try.func5, Try.ntmps5
          go_wp2_with (first | (go_at_call 10; (with_reducible refine (ha.out _).mono ?_); rintro e w2 ⟨rfl, hb⟩; have n0_ := Aside0.mk (B2.step HB.out hb); clear HB hb ha0 ha1 hb0 hb1; have HB := n0_; clear n0_; have ha0 := blk_cell HB.out.2.1 0; have ha1 := blk_cell HB.out.2.1 1; have hb0 := blk_cell HB.out.2.2 0; have hb1 := blk_cell HB.out.2.2 1; change _ = some (Value.string p0) at ha0; change _ = some (Value.string p1) at ha1; change _ = some (Value.string s0) at hb0; change _ = some (Value.string s1) at hb1))
          go_ret
          exact ⟨rfl, HB.out.1⟩
        · have xs1 : ((200 : Int) < (s1.size : Int)) = False := eq_false (by omega)
          have ys1 : (200 < s1.size) = False := eq_false (by omega)
          replace hm0 := hm0 (by omega)
          replace hm1 := hm1 (by omega)
          cases m0 with
          | false =>
            clear hm1 hck hmm
            go_enter Try.func5, Try.ntmps5
            go_wp2_with (first | (go_at_call 13; (with_reducible refine (hm0.out _).mono ?_); rintro e w2 ⟨rfl, hb⟩; have n0_ := Aside0.mk (B2.step HB.out hb); clear HB hb ha0 ha1 hb0 hb1; have HB := n0_; clear n0_; have ha0 := blk_cell HB.out.2.1 0; have ha1 := blk_cell HB.out.2.1 1; have hb0 := blk_cell HB.out.2.2 0; have hb1 := blk_cell HB.out.2.2 1; change _ = some (Value.string p0) at ha0; change _ = some (Value.string p1) at ha1; change _ = some (Value.string s0) at hb0; change _ = some (Value.string s1) at hb1) | (go_at_call 10; (with_reducible refine (ha.out _).mono ?_); rintro e w2 ⟨rfl, hb⟩; have n0_ := Aside0.mk (B2.step HB.out hb); clear HB hb ha0 ha1 hb0 hb1; have HB := n0_; clear n0_; have ha0 := blk_cell HB.out.2.1 0; have ha1 := blk_cell HB.out.2.1 1; have hb0 := blk_cell HB.out.2.2 0; have hb1 := blk_cell HB.out.2.2 1; change _ = some (Value.string p0) at ha0; change _ = some (Value.string p1) at ha1; change _ = some (Value.string s0) at hb0; change _ = some (Value.string s1) at hb1))
            go_ret
            exact ⟨rfl, HB.out.1⟩
          | true =>
            cases m1 with
            | false =>
              clear hck hmm
              go_enter Try.func5, Try.ntmps5
              go_wp2_with (first | (first | (go_at_call 13; (with_reducible refine (hm0.out _).mono ?_); rintro e w2 ⟨rfl, hb⟩; have n0_ := Aside0.mk (B2.step HB.out hb); clear HB hb ha0 ha1 hb0 hb1; have HB := n0_; clear n0_; have ha0 := blk_cell HB.out.2.1 0; have ha1 := blk_cell HB.out.2.1 1; have hb0 := blk_cell HB.out.2.2 0; have hb1 := blk_cell HB.out.2.2 1; change _ = some (Value.string p0) at ha0; change _ = some (Value.string p1) at ha1; change _ = some (Value.string s0) at hb0; change _ = some (Value.string s1) at hb1) | (go_at_call 13; (with_reducible refine (hm1.out _).mono ?_); rintro e w2 ⟨rfl, hb⟩; have n0_ := Aside0.mk (B2.step HB.out hb); clear HB hb ha0 ha1 hb0 hb1; have HB := n0_; clear n0_; have ha0 := blk_cell HB.out.2.1 0; have ha1 := blk_cell HB.out.2.1 1; have hb0 := blk_cell HB.out.2.2 0; have hb1 := blk_cell HB.out.2.2 1; change _ = some (Value.string p0) at ha0; change _ = some (Value.string p1) at ha1; change _ = some (Value.string s0) at hb0; change _ = some (Value.string s1) at hb1)) | (go_at_call 10; (with_reducible refine (ha.out _).mono ?_); rintro e w2 ⟨rfl, hb⟩; have n0_ := Aside0.mk (B2.step HB.out hb); clear HB hb ha0 ha1 hb0 hb1; have HB := n0_; clear n0_; have ha0 := blk_cell HB.out.2.1 0; have ha1 := blk_cell HB.out.2.1 1; have hb0 := blk_cell HB.out.2.2 0; have hb1 := blk_cell HB.out.2.2 1; change _ = some (Value.string p0) at ha0; change _ = some (Value.string p1) at ha1; change _ = some (Value.string s0) at hb0; change _ = some (Value.string s1) at hb1))
              go_ret
              exact ⟨rfl, HB.out.1⟩
            | true =>
              replace hck := hck rfl rfl
              replace hmm := hmm rfl rfl
              rcases hor rfl rfl with ⟨he, hsum⟩ | ⟨he, hmt⟩
              · subst he
                have q1 : ((100 : Int) < (p0.size : Int) + (p1.size : Int)) = True := eq_true (by omega)
                have q2 : (100 < p0.size + p1.size) = True := eq_true (by omega)
                clear hor hmm
                go_enter Try.func5, Try.ntmps5
                go_wp2_with (first | (first | (go_at_call 13; (with_reducible refine (hm0.out _).mono ?_); rintro e w2 ⟨rfl, hb⟩; have n0_ := Aside0.mk (B2.step HB.out hb); clear HB hb ha0 ha1 hb0 hb1; have HB := n0_; clear n0_; have ha0 := blk_cell HB.out.2.1 0; have ha1 := blk_cell HB.out.2.1 1; have hb0 := blk_cell HB.out.2.2 0; have hb1 := blk_cell HB.out.2.2 1; change _ = some (Value.string p0) at ha0; change _ = some (Value.string p1) at ha1; change _ = some (Value.string s0) at hb0; change _ = some (Value.string s1) at hb1) | (go_at_call 13; (with_reducible refine (hm1.out _).mono ?_); rintro e w2 ⟨rfl, hb⟩; have n0_ := Aside0.mk (B2.step HB.out hb); clear HB hb ha0 ha1 hb0 hb1; have HB := n0_; clear n0_; have ha0 := blk_cell HB.out.2.1 0; have ha1 := blk_cell HB.out.2.1 1; have hb0 := blk_cell HB.out.2.2 0; have hb1 := blk_cell HB.out.2.2 1; change _ = some (Value.string p0) at ha0; change _ = some (Value.string p1) at ha1; change _ = some (Value.string s0) at hb0; change _ = some (Value.string s1) at hb1)) | (go_at_call 11; (with_reducible refine (hck.out _).mono ?_); rintro e w2 ⟨rfl, hb⟩; have n0_ := Aside0.mk (B2.step HB.out hb); clear HB hb ha0 ha1 hb0 hb1; have HB := n0_; clear n0_; have ha0 := blk_cell HB.out.2.1 0; have ha1 := blk_cell HB.out.2.1 1; have hb0 := blk_cell HB.out.2.2 0; have hb1 := blk_cell HB.out.2.2 1; change _ = some (Value.string p0) at ha0; change _ = some (Value.string p1) at ha1; change _ = some (Value.string s0) at hb0; change _ = some (Value.string s1) at hb1) | (go_at_call 10; (with_reducible refine (ha.out _).mono ?_); rintro e w2 ⟨rfl, hb⟩; have n0_ := Aside0.mk (B2.step HB.out hb); clear HB hb ha0 ha1 hb0 hb1; have HB := n0_; clear n0_; have ha0 := blk_cell HB.out.2.1 0; have ha1 := blk_cell HB.out.2.1 1; have hb0 := blk_cell HB.out.2.2 0; have hb1 := blk_cell HB.out.2.2 1; change _ = some (Value.string p0) at ha0; change _ = some (Value.string p1) at ha1; change _ = some (Value.string s0) at hb0; change _ = some (Value.string s1) at hb1))
                go_ret
                exact ⟨rfl, HB.out.1⟩
              · subst he
                subst hmt
                clear hor
                go_enter Try.func5, Try.ntmps5
                go_wp2_with (first | (first | (go_at_call 13; (with_reducible refine (hm0.out _).mono ?_); rintro e w2 ⟨rfl, hb⟩; have n0_ := Aside0.mk (B2.step HB.out hb); clear HB hb ha0 ha1 hb0 hb1; have HB := n0_; clear n0_; have ha0 := blk_cell HB.out.2.1 0; have ha1 := blk_cell HB.out.2.1 1; have hb0 := blk_cell HB.out.2.2 0; have hb1 := blk_cell HB.out.2.2 1; change _ = some (Value.string p0) at ha0; change _ = some (Value.string p1) at ha1; change _ = some (Value.string s0) at hb0; change _ = some (Value.string s1) at hb1) | (go_at_call 13; (with_reducible refine (hm1.out _).mono ?_); rintro e w2 ⟨rfl, hb⟩; have n0_ := Aside0.mk (B2.step HB.out hb); clear HB hb ha0 ha1 hb0 hb1; have HB := n0_; clear n0_; have ha0 := blk_cell HB.out.2.1 0; have ha1 := blk_cell HB.out.2.1 1; have hb0 := blk_cell HB.out.2.2 0; have hb1 := blk_cell HB.out.2.2 1; change _ = some (Value.string p0) at ha0; change _ = some (Value.string p1) at ha1; change _ = some (Value.string s0) at hb0; change _ = some (Value.string s1) at hb1) | (go_at_call 13; (with_reducible refine (hmm.out _).mono ?_); rintro e w2 ⟨rfl, hb⟩; have n0_ := Aside0.mk (B2.step HB.out hb); clear HB hb ha0 ha1 hb0 hb1; have HB := n0_; clear n0_; have ha0 := blk_cell HB.out.2.1 0; have ha1 := blk_cell HB.out.2.1 1; have hb0 := blk_cell HB.out.2.2 0; have hb1 := blk_cell HB.out.2.2 1; change _ = some (Value.string p0) at ha0; change _ = some (Value.string p1) at ha1; change _ = some (Value.string s0) at hb0; change _ = some (Value.string s1) at hb1)) | (go_at_call 11; (with_reducible refine (hck.out _).mono ?_); rintro e w2 ⟨rfl, hb⟩; have n0_ := Aside0.mk (B2.step HB.out hb); clear HB hb ha0 ha1 hb0 hb1; have HB := n0_; clear n0_; have ha0 := blk_cell HB.out.2.1 0; have ha1 := blk_cell HB.out.2.1 1; have hb0 := blk_cell HB.out.2.2 0; have hb1 := blk_cell HB.out.2.2 1; change _ = some (Value.string p0) at ha0; change _ = some (Value.string p1) at ha1; change _ = some (Value.string s0) at hb0; change _ = some (Value.string s1) at hb1) | (go_at_call 10; (with_reducible refine (ha.out _).mono ?_); rintro e w2 ⟨rfl, hb⟩; have n0_ := Aside0.mk (B2.step HB.out hb); clear HB hb ha0 ha1 hb0 hb1; have HB := n0_; clear n0_; have ha0 := blk_cell HB.out.2.1 0; have ha1 := blk_cell HB.out.2.1 1; have hb0 := blk_cell HB.out.2.2 0; have hb1 := blk_cell HB.out.2.2 1; change _ = some (Value.string p0) at ha0; change _ = some (Value.string p1) at ha1; change _ = some (Value.string s0) at hb0; change _ = some (Value.string s1) at hb1))
                go_ret
                exact ⟨rfl, HB.out.1⟩
end Go.Proofs.Ytiigjnccoeadlaa.PA
