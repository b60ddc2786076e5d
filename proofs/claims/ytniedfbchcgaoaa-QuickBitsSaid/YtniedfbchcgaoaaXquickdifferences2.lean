/- The second difference of quick.differences (the times) by its contract: it tells whether the times are not near, where times are told. -/
import Derived.Test.YtniedfbchcgaoaaPAfquicknear
import Derived.Test.YtniedfbchcgaoaaPAx0
namespace Go.Proofs.Ytniedfbchcgaoaa.PA
open Go.RowKit Go.Proofs.YtniedfbchcgaoaaW.PrintWords Go.Proofs.YtniedfbchcgaoaaW.PrintLast Go.Proofs.YtniedfbchcgaoaaW.PrintMore
attribute [local go_sem] max2_int min2_int max_two min_two max_three min_three max_four min_four
set_option linter.unusedVariables false
set_option linter.unusedSimpArgs false
def quick_differences_2.f (a0_0 : ByteArray) (a0_1 : Int) (a0_2 : Int) (a0_3 : Int) (a0_4 : Int) (a0_5 : Int) (a0_6 : Int) (a0_7 : Int) (a0_8 : ByteArray) (a0_9 : ByteArray) (a0_10 : Int) (a1_0 : ByteArray) (a1_1 : Int) (a1_2 : Int) (a1_3 : Int) (a1_4 : Int) (a1_5 : Int) (a1_6 : Int) (a1_7 : Int) (a1_8 : ByteArray) (a1_9 : ByteArray) (a1_10 : Int) (a2_0 : Int) (a2_1 : Int) (a2_2 : Bool) (a2_3 : Bool) (a2_4 : Bool) (a2_5 : Bool) (a2_6 : Bool) (a2_7 : Bool) (a2_8 : Bool) (a2_9 : Bool) (a2_10 : Bool) (a2_11 : Bool) (a2_12 : Bool) (a2_13 : Bool) (a2_14 : Bool) (a2_15 : Bool) (a2_16 : Bool) (a2_17 : Bool) (a2_18 : Int) (a2_19 : Int) (a2_20 : Int) : Option Bool := if a0_1 = 1 then (quick_near.f 100 a0_0 a0_1 a0_2 a0_3 a0_4 a0_5 a0_6 a0_7 a0_8 a0_9 a0_10 a1_0 a1_1 a1_2 a1_3 a1_4 a1_5 a1_6 a1_7 a1_8 a1_9 a1_10 a2_0 a2_1 a2_2 a2_3 a2_4 a2_5 a2_6 a2_7 a2_8 a2_9 a2_10 a2_11 a2_12 a2_13 a2_14 a2_15 a2_16 a2_17 a2_18 a2_19 a2_20).bind fun t => some (!t) else if a2_8 = true then (if a0_1 = 2 then (quick_near.f 100 a0_0 a0_1 a0_2 a0_3 a0_4 a0_5 a0_6 a0_7 a0_8 a0_9 a0_10 a1_0 a1_1 a1_2 a1_3 a1_4 a1_5 a1_6 a1_7 a1_8 a1_9 a1_10 a2_0 a2_1 a2_2 a2_3 a2_4 a2_5 a2_6 a2_7 a2_8 a2_9 a2_10 a2_11 a2_12 a2_13 a2_14 a2_15 a2_16 a2_17 a2_18 a2_19 a2_20).bind fun t => some (!t) else if a0_1 = 3 then (quick_near.f 100 a0_0 a0_1 a0_2 a0_3 a0_4 a0_5 a0_6 a0_7 a0_8 a0_9 a0_10 a1_0 a1_1 a1_2 a1_3 a1_4 a1_5 a1_6 a1_7 a1_8 a1_9 a1_10 a2_0 a2_1 a2_2 a2_3 a2_4 a2_5 a2_6 a2_7 a2_8 a2_9 a2_10 a2_11 a2_12 a2_13 a2_14 a2_15 a2_16 a2_17 a2_18 a2_19 a2_20).bind fun t => some (!t) else some false) else some false
theorem blks3 (w : World) (S D O : Array Value) (s d o : Nat) : (((w.alloc (.cells S s)).alloc (.cells D d)).alloc (.cells O o)).heap[w.heap.size]? = some (.cells S s (0, 0)) ∧ (((w.alloc (.cells S s)).alloc (.cells D d)).alloc (.cells O o)).heap[w.heap.size + 1]? = some (.cells D d (0, 0)) ∧ (((w.alloc (.cells S s)).alloc (.cells D d)).alloc (.cells O o)).heap[w.heap.size + 1 + 1]? = some (.cells O o (0, 0)) := by
  refine ⟨blk_alloc (blk_alloc (blk_new _ _) _) _, blk_alloc ?_ _, ?_⟩
  · have := blk_new (w.alloc (.cells S s)) (.cells D d)
    simpa using this
  · have := blk_new ((w.alloc (.cells S s)).alloc (.cells D d)) (.cells O o)
    simpa using this
set_option maxHeartbeats 1000000 in
set_option maxRecDepth 100000 in
theorem qd2_a (S D O : Array Value) (hS : S.size = 11) (hD : D.size = 11) (hO : O.size = 21) (a : Int) (hks : S[1]'(by omega) = .int .i64 a) (w : World) (b1 : (a == 1) = true) (t : Bool) (hnear : Aside0 (∀ w, Calls Try.prog 26 #[.agg S, .agg D, .agg O] w fun e w' => e = .returned (.bool t) ∧ Below w.heap.size w w')) : Calls Try.prog 30 #[.agg S, .agg D, .agg O] w fun e w' => e = .returned (.bool (!t)) ∧ Below w.heap.size w w' := by
  have hu1 := Try.underlying25
  have hu2 := Try.underlying27
  have i1 := Aside0.mk (show (Try.prog.info? 25).map (·.size) = some S.size by rw [hS]; kernel_rfl)
  have i2 := Aside0.mk (show (Try.prog.info? 25).map (·.size) = some D.size by rw [hD]; kernel_rfl)
  have i3 := Aside0.mk (show (Try.prog.info? 27).map (·.size) = some O.size by rw [hO]; kernel_rfl)
  have HH := Aside0.mk (blks3 w S D O 25 25 27)
  go_enter Try.func30, Try.ntmps30
  go_wp2_with (first
    | ((with_reducible refine gate_dst (N := 27) rfl ?_); refine gate_guard (by rfl) ?_; dsimp only; refine wpList_load_row rfl 25 (.tmp 3) rfl w.heap.size rfl 25 S (0, 0) _ HH.out.1 hu1 rfl i1.out ?_)
    | ((with_reducible refine gate_dst (N := 28) rfl ?_); refine gate_guard (by rfl) ?_; dsimp only; refine wpList_load_row rfl 25 (.tmp 4) rfl (w.heap.size + 1) rfl 25 D (0, 0) _ HH.out.2.1 hu1 rfl i2.out ?_)
    | ((with_reducible refine gate_dst (N := 29) rfl ?_); refine gate_guard (by rfl) ?_; dsimp only; refine wpList_load_row rfl 27 (.tmp 5) rfl (w.heap.size + 1 + 1) rfl 27 O (0, 0) _ HH.out.2.2 hu2 rfl i3.out ?_)
    | (go_at_call 26; refine (hnear.out _).mono ?_; rintro e w' ⟨rfl, hb⟩; have HB := Aside0.mk hb; clear hb))
  go_ret
  exact ⟨rfl, below_step (below_alloc (below_alloc (below_alloc (Below.refl _ _) _) _) _) HB.out⟩
set_option maxHeartbeats 1000000 in
set_option maxRecDepth 100000 in
theorem qd2_b (S D O : Array Value) (hS : S.size = 11) (hD : D.size = 11) (hO : O.size = 21) (a : Int) (hks : S[1]'(by omega) = .int .i64 a) (w : World) (ht : O[8]'(by omega) = .bool true) (b1 : (a == 1) = false) (b2 : (a == 2) = true) (t : Bool) (hnear : Aside0 (∀ w, Calls Try.prog 26 #[.agg S, .agg D, .agg O] w fun e w' => e = .returned (.bool t) ∧ Below w.heap.size w w')) : Calls Try.prog 30 #[.agg S, .agg D, .agg O] w fun e w' => e = .returned (.bool (!t)) ∧ Below w.heap.size w w' := by
  have hu1 := Try.underlying25
  have hu2 := Try.underlying27
  have i1 := Aside0.mk (show (Try.prog.info? 25).map (·.size) = some S.size by rw [hS]; kernel_rfl)
  have i2 := Aside0.mk (show (Try.prog.info? 25).map (·.size) = some D.size by rw [hD]; kernel_rfl)
  have i3 := Aside0.mk (show (Try.prog.info? 27).map (·.size) = some O.size by rw [hO]; kernel_rfl)
  have HH := Aside0.mk (blks3 w S D O 25 25 27)
  go_enter Try.func30, Try.ntmps30
  go_wp2_with (first
    | ((with_reducible refine gate_dst (N := 27) rfl ?_); refine gate_guard (by rfl) ?_; dsimp only; refine wpList_load_row rfl 25 (.tmp 3) rfl w.heap.size rfl 25 S (0, 0) _ HH.out.1 hu1 rfl i1.out ?_)
    | ((with_reducible refine gate_dst (N := 28) rfl ?_); refine gate_guard (by rfl) ?_; dsimp only; refine wpList_load_row rfl 25 (.tmp 4) rfl (w.heap.size + 1) rfl 25 D (0, 0) _ HH.out.2.1 hu1 rfl i2.out ?_)
    | ((with_reducible refine gate_dst (N := 29) rfl ?_); refine gate_guard (by rfl) ?_; dsimp only; refine wpList_load_row rfl 27 (.tmp 5) rfl (w.heap.size + 1 + 1) rfl 27 O (0, 0) _ HH.out.2.2 hu2 rfl i3.out ?_)
    | (go_at_call 26; refine (hnear.out _).mono ?_; rintro e w' ⟨rfl, hb⟩; have HB := Aside0.mk hb; clear hb))
  go_ret
  exact ⟨rfl, below_step (below_alloc (below_alloc (below_alloc (Below.refl _ _) _) _) _) HB.out⟩
set_option maxHeartbeats 1000000 in
set_option maxRecDepth 100000 in
theorem qd2_c (S D O : Array Value) (hS : S.size = 11) (hD : D.size = 11) (hO : O.size = 21) (a : Int) (hks : S[1]'(by omega) = .int .i64 a) (w : World) (ht : O[8]'(by omega) = .bool true) (b1 : (a == 1) = false) (b2 : (a == 2) = false) (b3 : (a == 3) = true) (t : Bool) (hnear : Aside0 (∀ w, Calls Try.prog 26 #[.agg S, .agg D, .agg O] w fun e w' => e = .returned (.bool t) ∧ Below w.heap.size w w')) : Calls Try.prog 30 #[.agg S, .agg D, .agg O] w fun e w' => e = .returned (.bool (!t)) ∧ Below w.heap.size w w' := by
  have hu1 := Try.underlying25
  have hu2 := Try.underlying27
  have i1 := Aside0.mk (show (Try.prog.info? 25).map (·.size) = some S.size by rw [hS]; kernel_rfl)
  have i2 := Aside0.mk (show (Try.prog.info? 25).map (·.size) = some D.size by rw [hD]; kernel_rfl)
  have i3 := Aside0.mk (show (Try.prog.info? 27).map (·.size) = some O.size by rw [hO]; kernel_rfl)
  have HH := Aside0.mk (blks3 w S D O 25 25 27)
  go_enter Try.func30, Try.ntmps30
  go_wp2_with (first
    | ((with_reducible refine gate_dst (N := 27) rfl ?_); refine gate_guard (by rfl) ?_; dsimp only; refine wpList_load_row rfl 25 (.tmp 3) rfl w.heap.size rfl 25 S (0, 0) _ HH.out.1 hu1 rfl i1.out ?_)
    | ((with_reducible refine gate_dst (N := 28) rfl ?_); refine gate_guard (by rfl) ?_; dsimp only; refine wpList_load_row rfl 25 (.tmp 4) rfl (w.heap.size + 1) rfl 25 D (0, 0) _ HH.out.2.1 hu1 rfl i2.out ?_)
    | ((with_reducible refine gate_dst (N := 29) rfl ?_); refine gate_guard (by rfl) ?_; dsimp only; refine wpList_load_row rfl 27 (.tmp 5) rfl (w.heap.size + 1 + 1) rfl 27 O (0, 0) _ HH.out.2.2 hu2 rfl i3.out ?_)
    | (go_at_call 26; refine (hnear.out _).mono ?_; rintro e w' ⟨rfl, hb⟩; have HB := Aside0.mk hb; clear hb))
  go_ret
  exact ⟨rfl, below_step (below_alloc (below_alloc (below_alloc (Below.refl _ _) _) _) _) HB.out⟩
set_option maxHeartbeats 1000000 in
set_option maxRecDepth 100000 in
theorem qd2_d (S D O : Array Value) (hS : S.size = 11) (hD : D.size = 11) (hO : O.size = 21) (a : Int) (hks : S[1]'(by omega) = .int .i64 a) (w : World) (ht : O[8]'(by omega) = .bool true) (b1 : (a == 1) = false) (b2 : (a == 2) = false) (b3 : (a == 3) = false) : Calls Try.prog 30 #[.agg S, .agg D, .agg O] w fun e w' => e = .returned (.bool false) ∧ Below w.heap.size w w' := by
  have hu1 := Try.underlying25
  have hu2 := Try.underlying27
  go_enter Try.func30, Try.ntmps30
  go_wp2
  go_ret
  exact ⟨rfl, below_alloc (below_alloc (below_alloc (Below.refl _ _) _) _) _⟩
set_option maxHeartbeats 1000000 in
set_option maxRecDepth 100000 in
theorem qd2_e (S D O : Array Value) (hS : S.size = 11) (hD : D.size = 11) (hO : O.size = 21) (a : Int) (hks : S[1]'(by omega) = .int .i64 a) (w : World) (ht : O[8]'(by omega) = .bool false) (b1 : (a == 1) = false) : Calls Try.prog 30 #[.agg S, .agg D, .agg O] w fun e w' => e = .returned (.bool false) ∧ Below w.heap.size w w' := by
  have hu1 := Try.underlying25
  have hu2 := Try.underlying27
  go_enter Try.func30, Try.ntmps30
  go_wp2
  go_ret
  exact ⟨rfl, below_alloc (below_alloc (below_alloc (Below.refl _ _) _) _) _⟩
theorem quick_differences_2.calls (a0_0 : ByteArray) (a0_1 : Int) (a0_2 : Int) (a0_3 : Int) (a0_4 : Int) (a0_5 : Int) (a0_6 : Int) (a0_7 : Int) (a0_8 : ByteArray) (a0_9 : ByteArray) (a0_10 : Int) (a1_0 : ByteArray) (a1_1 : Int) (a1_2 : Int) (a1_3 : Int) (a1_4 : Int) (a1_5 : Int) (a1_6 : Int) (a1_7 : Int) (a1_8 : ByteArray) (a1_9 : ByteArray) (a1_10 : Int) (a2_0 : Int) (a2_1 : Int) (a2_2 : Bool) (a2_3 : Bool) (a2_4 : Bool) (a2_5 : Bool) (a2_6 : Bool) (a2_7 : Bool) (a2_8 : Bool) (a2_9 : Bool) (a2_10 : Bool) (a2_11 : Bool) (a2_12 : Bool) (a2_13 : Bool) (a2_14 : Bool) (a2_15 : Bool) (a2_16 : Bool) (a2_17 : Bool) (a2_18 : Int) (a2_19 : Int) (a2_20 : Int) (r : Bool) (w : World) (h : quick_differences_2.f a0_0 a0_1 a0_2 a0_3 a0_4 a0_5 a0_6 a0_7 a0_8 a0_9 a0_10 a1_0 a1_1 a1_2 a1_3 a1_4 a1_5 a1_6 a1_7 a1_8 a1_9 a1_10 a2_0 a2_1 a2_2 a2_3 a2_4 a2_5 a2_6 a2_7 a2_8 a2_9 a2_10 a2_11 a2_12 a2_13 a2_14 a2_15 a2_16 a2_17 a2_18 a2_19 a2_20 = some r) :
    Calls Try.prog 30 #[.agg #[.string a0_0, .int .i64 a0_1, .int .i64 a0_2, .int .i64 a0_3, .int .i64 a0_4, .int .i64 a0_5, .int .i64 a0_6, .int .i64 a0_7, .string a0_8, .string a0_9, .int .i64 a0_10], .agg #[.string a1_0, .int .i64 a1_1, .int .i64 a1_2, .int .i64 a1_3, .int .i64 a1_4, .int .i64 a1_5, .int .i64 a1_6, .int .i64 a1_7, .string a1_8, .string a1_9, .int .i64 a1_10], .agg #[.int .i64 a2_0, .int .i64 a2_1, .bool a2_2, .bool a2_3, .bool a2_4, .bool a2_5, .bool a2_6, .bool a2_7, .bool a2_8, .bool a2_9, .bool a2_10, .bool a2_11, .bool a2_12, .bool a2_13, .bool a2_14, .bool a2_15, .bool a2_16, .bool a2_17, .int .i64 a2_18, .int .i64 a2_19, .int .i64 a2_20]] w fun e w' => e = .returned (.bool r) ∧ Below w.heap.size w w' := by
  unfold quick_differences_2.f at h
  by_cases k1 : a0_1 = 1
  · rw [if_pos k1] at h
    obtain ⟨t, E, h⟩ := Option.bind_eq_some_iff.mp h
    obtain rfl := Option.some.inj h
    exact qd2_a _ _ _ rfl rfl rfl _ rfl _ (beq_iff_eq.mpr k1) t ⟨fun w => quick_near.calls 100 _ _ _ _ _ _ _ _ _ _ _ _ _ _ _ _ _ _ _ _ _ _ _ _ _ _ _ _ _ _ _ _ _ _ _ _ _ _ _ _ _ _ _ t w E⟩
  rw [if_neg k1] at h
  cases a2_8 with
  | false =>
    simp only [Bool.false_eq_true, if_false] at h
    obtain rfl := Option.some.inj h
    exact qd2_e _ _ _ rfl rfl rfl _ rfl _ rfl (beq_eq_false_iff_ne.mpr k1)
  | true =>
    simp only [if_true] at h
    by_cases k2 : a0_1 = 2
    · rw [if_pos k2] at h
      obtain ⟨t, E, h⟩ := Option.bind_eq_some_iff.mp h
      obtain rfl := Option.some.inj h
      exact qd2_b _ _ _ rfl rfl rfl _ rfl _ rfl (beq_eq_false_iff_ne.mpr k1) (beq_iff_eq.mpr k2) t ⟨fun w => quick_near.calls 100 _ _ _ _ _ _ _ _ _ _ _ _ _ _ _ _ _ _ _ _ _ _ _ _ _ _ _ _ _ _ _ _ _ _ _ _ _ _ _ _ _ _ _ t w E⟩
    rw [if_neg k2] at h
    by_cases k3 : a0_1 = 3
    · rw [if_pos k3] at h
      obtain ⟨t, E, h⟩ := Option.bind_eq_some_iff.mp h
      obtain rfl := Option.some.inj h
      exact qd2_c _ _ _ rfl rfl rfl _ rfl _ rfl (beq_eq_false_iff_ne.mpr k1) (beq_eq_false_iff_ne.mpr k2) (beq_iff_eq.mpr k3) t ⟨fun w => quick_near.calls 100 _ _ _ _ _ _ _ _ _ _ _ _ _ _ _ _ _ _ _ _ _ _ _ _ _ _ _ _ _ _ _ _ _ _ _ _ _ _ _ _ _ _ _ t w E⟩
    rw [if_neg k3] at h
    obtain rfl := Option.some.inj h
    exact qd2_d _ _ _ rfl rfl rfl _ rfl _ rfl (beq_eq_false_iff_ne.mpr k1) (beq_eq_false_iff_ne.mpr k2) (beq_eq_false_iff_ne.mpr k3)
end Go.Proofs.Ytniedfbchcgaoaa.PA
