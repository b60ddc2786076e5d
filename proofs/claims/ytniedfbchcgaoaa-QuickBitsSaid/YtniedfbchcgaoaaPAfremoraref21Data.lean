-- Written by a program of this session (the kit's print with this repo's externals: px.py).
import Derived.Test.YtniedfbchcgaoaaPAx0
import Derived.Test.YtniedfbchcgaoaaPAfremoraref21has
namespace Go.Proofs.Ytniedfbchcgaoaa.PA
open Go.RowKit Go.Proofs.YtniedfbchcgaoaaW.PrintWords Go.Proofs.YtniedfbchcgaoaaW.PrintLast Go.Proofs.YtniedfbchcgaoaaW.PrintMore
attribute [local go_sem] max2_int min2_int max_two min_two max_three min_three max_four min_four   -- for this text's walks alone
set_option linter.unusedVariables false
set_option linter.unusedSimpArgs false

/-! ### remoraref21_Data: function 14 -/
def remoraref21_Data.j0 : Nat → Int → Bool → Int → Int → Bool → Bool → Bool → Bool → Bool → Bool → Bool → Bool → Bool → Bool → Bool → Bool → Bool → Bool → Bool → Bool → Int → Int → Int → Option (Bool)
  | 0, _, _, _, _, _, _, _, _, _, _, _, _, _, _, _, _, _, _, _, _, _, _, _ => none
  | k + 1, x0, x14, x102000, x102001, x102002, x102003, x102004, x102005, x102006, x102007, x102008, x102009, x102010, x102011, x102012, x102013, x102014, x102015, x102016, x102017, x102018, x102019, x102020 => if x14 = true then (some true) else (if x102002 = true then ((remoraref21_has.f x0 128).bind fun t105 => (some t105)) else (if x102003 = true then (some false) else ((remoraref21_has.f x0 8).bind fun t106 => (some t106))))
def remoraref21_Data.f (k : Nat) (a0 : Int) (a1_0 : Int) (a1_1 : Int) (a1_2 : Bool) (a1_3 : Bool) (a1_4 : Bool) (a1_5 : Bool) (a1_6 : Bool) (a1_7 : Bool) (a1_8 : Bool) (a1_9 : Bool) (a1_10 : Bool) (a1_11 : Bool) (a1_12 : Bool) (a1_13 : Bool) (a1_14 : Bool) (a1_15 : Bool) (a1_16 : Bool) (a1_17 : Bool) (a1_18 : Int) (a1_19 : Int) (a1_20 : Int) : Option (Bool) := (remoraref21_has.f a0 1).bind fun t102 => (if t102 = true then (remoraref21_Data.j0 k a0 true a1_0 a1_1 a1_2 a1_3 a1_4 a1_5 a1_6 a1_7 a1_8 a1_9 a1_10 a1_11 a1_12 a1_13 a1_14 a1_15 a1_16 a1_17 a1_18 a1_19 a1_20) else ((remoraref21_has.f a0 2).bind fun t103 => (if t103 = true then (remoraref21_Data.j0 k a0 true a1_0 a1_1 a1_2 a1_3 a1_4 a1_5 a1_6 a1_7 a1_8 a1_9 a1_10 a1_11 a1_12 a1_13 a1_14 a1_15 a1_16 a1_17 a1_18 a1_19 a1_20) else ((remoraref21_has.f a0 4).bind fun t104 => (remoraref21_Data.j0 k a0 t104 a1_0 a1_1 a1_2 a1_3 a1_4 a1_5 a1_6 a1_7 a1_8 a1_9 a1_10 a1_11 a1_12 a1_13 a1_14 a1_15 a1_16 a1_17 a1_18 a1_19 a1_20)))))
theorem remoraref21_Data.mono_l : ∀ k, (∀ y0 y1 y2 y3 y4 y5 y6 y7 y8 y9 y10 y11 y12 y13 y14 y15 y16 y17 y18 y19 y20 y21 y22, LeO (remoraref21_Data.j0 k y0 y1 y2 y3 y4 y5 y6 y7 y8 y9 y10 y11 y12 y13 y14 y15 y16 y17 y18 y19 y20 y21 y22) (remoraref21_Data.j0 (k + 1) y0 y1 y2 y3 y4 y5 y6 y7 y8 y9 y10 y11 y12 y13 y14 y15 y16 y17 y18 y19 y20 y21 y22))
  | 0 => fun _ _ _ _ _ _ _ _ _ _ _ _ _ _ _ _ _ _ _ _ _ _ _ r h => by simp [remoraref21_Data.j0] at h
  | k + 1 => by
    have ih0 := remoraref21_Data.mono_l k
    · intro y0 y1 y2 y3 y4 y5 y6 y7 y8 y9 y10 y11 y12 y13 y14 y15 y16 y17 y18 y19 y20 y21 y22
      unfold remoraref21_Data.j0
      repeat' first
      | (with_reducible exact ih0 _ _ _ _ _ _ _ _ _ _ _ _ _ _ _ _ _ _ _ _ _ _ _)
      | (with_reducible exact LeO.refl _)
      | (with_reducible exact LeO.none _)
      | (with_reducible refine LeO.ite ?_ ?_)
      | (with_reducible refine LeO.bind ?_ (fun _ => ?_))
      | exact ih0 _ _ _ _ _ _ _ _ _ _ _ _ _ _ _ _ _ _ _ _ _ _ _
      | exact LeO.none _
      | refine LeO.ite ?_ ?_
      | refine LeO.bind ?_ (fun _ => ?_)
theorem remoraref21_Data.mono : ∀ a0 a1 a2 a3 a4 a5 a6 a7 a8 a9 a10 a11 a12 a13 a14 a15 a16 a17 a18 a19 a20 a21 k, LeO (remoraref21_Data.f k a0 a1 a2 a3 a4 a5 a6 a7 a8 a9 a10 a11 a12 a13 a14 a15 a16 a17 a18 a19 a20 a21) (remoraref21_Data.f (k + 1) a0 a1 a2 a3 a4 a5 a6 a7 a8 a9 a10 a11 a12 a13 a14 a15 a16 a17 a18 a19 a20 a21) := by
  intro a0 a1 a2 a3 a4 a5 a6 a7 a8 a9 a10 a11 a12 a13 a14 a15 a16 a17 a18 a19 a20 a21 k
  have ih0 := remoraref21_Data.mono_l k
  unfold remoraref21_Data.f
  repeat' first
      | (with_reducible exact ih0 _ _ _ _ _ _ _ _ _ _ _ _ _ _ _ _ _ _ _ _ _ _ _)
      | (with_reducible exact LeO.refl _)
      | (with_reducible exact LeO.none _)
      | (with_reducible refine LeO.ite ?_ ?_)
      | (with_reducible refine LeO.bind ?_ (fun _ => ?_))
      | exact ih0 _ _ _ _ _ _ _ _ _ _ _ _ _ _ _ _ _ _ _ _ _ _ _
      | exact LeO.none _
      | refine LeO.ite ?_ ?_
      | refine LeO.bind ?_ (fun _ => ?_)
set_option maxHeartbeats 8000000 in
set_option maxRecDepth 100000 in
theorem remoraref21_Data.calls (k : Nat) (a0 : Int) (a1_0 : Int) (a1_1 : Int) (a1_2 : Bool) (a1_3 : Bool) (a1_4 : Bool) (a1_5 : Bool) (a1_6 : Bool) (a1_7 : Bool) (a1_8 : Bool) (a1_9 : Bool) (a1_10 : Bool) (a1_11 : Bool) (a1_12 : Bool) (a1_13 : Bool) (a1_14 : Bool) (a1_15 : Bool) (a1_16 : Bool) (a1_17 : Bool) (a1_18 : Int) (a1_19 : Int) (a1_20 : Int) (r : Bool) (w : World) (h : remoraref21_Data.f k a0 a1_0 a1_1 a1_2 a1_3 a1_4 a1_5 a1_6 a1_7 a1_8 a1_9 a1_10 a1_11 a1_12 a1_13 a1_14 a1_15 a1_16 a1_17 a1_18 a1_19 a1_20 = some r) :
    Calls Try.prog 14 #[.int .i64 a0, .agg #[.int .i64 a1_0, .int .i64 a1_1, .bool a1_2, .bool a1_3, .bool a1_4, .bool a1_5, .bool a1_6, .bool a1_7, .bool a1_8, .bool a1_9, .bool a1_10, .bool a1_11, .bool a1_12, .bool a1_13, .bool a1_14, .bool a1_15, .bool a1_16, .bool a1_17, .int .i64 a1_18, .int .i64 a1_19, .int .i64 a1_20]] w fun e w' => e = .returned (.bool r) ∧ Below w.heap.size w w' := by
  have hu27 := Try.underlying27
  have HB := Aside0.mk (Below.refl w.heap.size w)
  have H : ((remoraref21_has.f a0 1).bind fun t102 => (if t102 = true then (remoraref21_Data.j0 k a0 true a1_0 a1_1 a1_2 a1_3 a1_4 a1_5 a1_6 a1_7 a1_8 a1_9 a1_10 a1_11 a1_12 a1_13 a1_14 a1_15 a1_16 a1_17 a1_18 a1_19 a1_20) else ((remoraref21_has.f a0 2).bind fun t103 => (if t103 = true then (remoraref21_Data.j0 k a0 true a1_0 a1_1 a1_2 a1_3 a1_4 a1_5 a1_6 a1_7 a1_8 a1_9 a1_10 a1_11 a1_12 a1_13 a1_14 a1_15 a1_16 a1_17 a1_18 a1_19 a1_20) else ((remoraref21_has.f a0 4).bind fun t104 => (remoraref21_Data.j0 k a0 t104 a1_0 a1_1 a1_2 a1_3 a1_4 a1_5 a1_6 a1_7 a1_8 a1_9 a1_10 a1_11 a1_12 a1_13 a1_14 a1_15 a1_16 a1_17 a1_18 a1_19 a1_20)))))) = some r := h
  clear h
  have HC3 := Aside0.mk H
  clear H
  go_enter Try.func14, Try.ntmps14
  go_upto_region 1 with (first | ((with_reducible refine gate_dst (N := 3) rfl ?_); refine box_event ?hg (N := 3) ?hd (cs := #[.int .i64 a1_0, .int .i64 a1_1, .bool a1_2, .bool a1_3, .bool a1_4, .bool a1_5, .bool a1_6, .bool a1_7, .bool a1_8, .bool a1_9, .bool a1_10, .bool a1_11, .bool a1_12, .bool a1_13, .bool a1_14, .bool a1_15, .bool a1_16, .bool a1_17, .int .i64 a1_18, .int .i64 a1_19, .int .i64 a1_20]) (t := 27) ?hr ?_; (case hd => rfl); (case hg => rfl); (case hr => first | (go_simp; done) | (go_simp; rfl)); intro gb101 hg w4 hbox hb; have n0_ := Aside0.mk (below_step (by repeat (first | (with_reducible first | exact HB.out | apply below_alloc | apply pw_below_drewN | apply below_drew1) | exact HB.out)) hb); have n1_ := Aside0.mk (hbox); have n2_ := Aside0.mk ((by rw [hg]; exact (below_size (by repeat (first | (with_reducible first | exact HB.out | apply below_alloc | apply pw_below_drewN | apply below_drew1) | exact HB.out))) : w.heap.size ≤ gb101)); have n3_ := Aside0.mk ((by rw [hg]; exact (below_size (by repeat (first | (with_reducible first | exact HB.out | apply below_alloc | apply pw_below_drewN | apply below_drew1) | exact HB.out))) : w.heap.size ≤ gb101)); clear HB; have HB := n0_; have BK101 := n1_; have GW101 := n2_; have GE101 := n3_; clear n0_ n1_ n2_ n3_; clear hb hbox hg))
  (try simp only [Act.put, List.setIfInBounds_toArray, List.set_cons_zero, List.set_cons_succ])
  go_cut [14] (fun v14 wc => ∃ (kq : Nat) (x14_2 : Bool), v14 = .bool x14_2 ∧ Aside0 (remoraref21_Data.j0 kq a0 x14_2 a1_0 a1_1 a1_2 a1_3 a1_4 a1_5 a1_6 a1_7 a1_8 a1_9 a1_10 a1_11 a1_12 a1_13 a1_14 a1_15 a1_16 a1_17 a1_18 a1_19 a1_20 = some r) ∧ Aside0 (kq ≤ k) ∧ Aside0 (wc.heap[gb101]? = some (.cells #[.int .i64 a1_0, .int .i64 a1_1, .bool a1_2, .bool a1_3, .bool a1_4, .bool a1_5, .bool a1_6, .bool a1_7, .bool a1_8, .bool a1_9, .bool a1_10, .bool a1_11, .bool a1_12, .bool a1_13, .bool a1_14, .bool a1_15, .bool a1_16, .bool a1_17, .int .i64 a1_18, .int .i64 a1_19, .int .i64 a1_20] 27 (0, 0))) ∧ Aside0 (Below w.heap.size w wc))
  case first =>
    have H := HC3.out
    clear HC3
    replace H := Option.bind_eq_some_iff.mp H
    obtain ⟨t102, A50, H⟩ := H
    replace H : (if t102 = true then (remoraref21_Data.j0 k a0 true a1_0 a1_1 a1_2 a1_3 a1_4 a1_5 a1_6 a1_7 a1_8 a1_9 a1_10 a1_11 a1_12 a1_13 a1_14 a1_15 a1_16 a1_17 a1_18 a1_19 a1_20) else ((remoraref21_has.f a0 2).bind fun t103 => (if t103 = true then (remoraref21_Data.j0 k a0 true a1_0 a1_1 a1_2 a1_3 a1_4 a1_5 a1_6 a1_7 a1_8 a1_9 a1_10 a1_11 a1_12 a1_13 a1_14 a1_15 a1_16 a1_17 a1_18 a1_19 a1_20) else ((remoraref21_has.f a0 4).bind fun t104 => (remoraref21_Data.j0 k a0 t104 a1_0 a1_1 a1_2 a1_3 a1_4 a1_5 a1_6 a1_7 a1_8 a1_9 a1_10 a1_11 a1_12 a1_13 a1_14 a1_15 a1_16 a1_17 a1_18 a1_19 a1_20))))) = some r := H
    have A5 := Aside0.mk A50
    clear A50
    by_cases c6 : t102 = true
    · subst c6
      have H1 : (remoraref21_Data.j0 k a0 true a1_0 a1_1 a1_2 a1_3 a1_4 a1_5 a1_6 a1_7 a1_8 a1_9 a1_10 a1_11 a1_12 a1_13 a1_14 a1_15 a1_16 a1_17 a1_18 a1_19 a1_20) = some r := by rw [if_pos rfl] at H; exact H
      clear H
      have H := H1
      clear H1
      have H' := Aside0.mk H
      clear H
      go_wp2_with (first | ((with_reducible refine gate_callee (f := 24) rfl ?_); refine goesL_ (some 6) rfl rfl Try.func24 (by kernel_rfl) rfl #[.int .i64 a0, .int .i64 1] rfl (by (try simp only [List.map_toArray, List.map_cons, List.map_nil]); first | done | rfl | (simp only [List.length_drop, List.length_take]; rfl)) ?_; (with_reducible refine (remoraref21_has.calls a0 1 true _ A5.out).mono ?_); rintro e w' ⟨rfl, ⟨nd, rfl⟩⟩; refine ⟨_, rfl, ?_⟩))
      go_meet
      case rel => exact ⟨_, (true), (by first | rfl | (simp; done) | (simp [*]; done)), H', ⟨by first | omega | exact Nat.le_refl _⟩, ⟨by (with_reducible repeat (first | refine blk_drewN ?_ _ | refine blk_drew ?_ | refine blk_alloc ?_ _)); exact BK101.out⟩, ⟨by repeat (first | (with_reducible first | exact HB.out | apply below_alloc | apply pw_below_drewN | apply below_drew1 | refine below_set ?_ GE101.out) | exact HB.out)⟩⟩
    · replace c6 := Bool.eq_false_iff.mpr c6
      subst c6
      have H1 : ((remoraref21_has.f a0 2).bind fun t103 => (if t103 = true then (remoraref21_Data.j0 k a0 true a1_0 a1_1 a1_2 a1_3 a1_4 a1_5 a1_6 a1_7 a1_8 a1_9 a1_10 a1_11 a1_12 a1_13 a1_14 a1_15 a1_16 a1_17 a1_18 a1_19 a1_20) else ((remoraref21_has.f a0 4).bind fun t104 => (remoraref21_Data.j0 k a0 t104 a1_0 a1_1 a1_2 a1_3 a1_4 a1_5 a1_6 a1_7 a1_8 a1_9 a1_10 a1_11 a1_12 a1_13 a1_14 a1_15 a1_16 a1_17 a1_18 a1_19 a1_20)))) = some r := by rw [if_neg (show ¬ (false = true) by decide)] at H; exact H
      clear H
      have H := H1
      clear H1
      replace H := Option.bind_eq_some_iff.mp H
      obtain ⟨t103, A70, H⟩ := H
      replace H : (if t103 = true then (remoraref21_Data.j0 k a0 true a1_0 a1_1 a1_2 a1_3 a1_4 a1_5 a1_6 a1_7 a1_8 a1_9 a1_10 a1_11 a1_12 a1_13 a1_14 a1_15 a1_16 a1_17 a1_18 a1_19 a1_20) else ((remoraref21_has.f a0 4).bind fun t104 => (remoraref21_Data.j0 k a0 t104 a1_0 a1_1 a1_2 a1_3 a1_4 a1_5 a1_6 a1_7 a1_8 a1_9 a1_10 a1_11 a1_12 a1_13 a1_14 a1_15 a1_16 a1_17 a1_18 a1_19 a1_20))) = some r := H
      have A7 := Aside0.mk A70
      clear A70
      by_cases c8 : t103 = true
      · subst c8
        have H1 : (remoraref21_Data.j0 k a0 true a1_0 a1_1 a1_2 a1_3 a1_4 a1_5 a1_6 a1_7 a1_8 a1_9 a1_10 a1_11 a1_12 a1_13 a1_14 a1_15 a1_16 a1_17 a1_18 a1_19 a1_20) = some r := by rw [if_pos rfl] at H; exact H
        clear H
        have H := H1
        clear H1
        have H' := Aside0.mk H
        clear H
        go_wp2_with (first | ((with_reducible refine gate_callee (f := 24) rfl ?_); refine goesL_ (some 6) rfl rfl Try.func24 (by kernel_rfl) rfl #[.int .i64 a0, .int .i64 1] rfl (by (try simp only [List.map_toArray, List.map_cons, List.map_nil]); first | done | rfl | (simp only [List.length_drop, List.length_take]; rfl)) ?_; (with_reducible refine (remoraref21_has.calls a0 1 false _ A5.out).mono ?_); rintro e w' ⟨rfl, ⟨nd, rfl⟩⟩; refine ⟨_, rfl, ?_⟩) | (go_at_call 24; (with_reducible refine (remoraref21_has.calls a0 2 true _ A7.out).mono ?_); rintro e w' ⟨rfl, ⟨nd, rfl⟩⟩))
        go_meet
        case rel => exact ⟨_, (true), (by first | rfl | (simp; done) | (simp [*]; done)), H', ⟨by first | omega | exact Nat.le_refl _⟩, ⟨by (with_reducible repeat (first | refine blk_drewN ?_ _ | refine blk_drew ?_ | refine blk_alloc ?_ _)); exact BK101.out⟩, ⟨by repeat (first | (with_reducible first | exact HB.out | apply below_alloc | apply pw_below_drewN | apply below_drew1 | refine below_set ?_ GE101.out) | exact HB.out)⟩⟩
      · replace c8 := Bool.eq_false_iff.mpr c8
        subst c8
        have H1 : ((remoraref21_has.f a0 4).bind fun t104 => (remoraref21_Data.j0 k a0 t104 a1_0 a1_1 a1_2 a1_3 a1_4 a1_5 a1_6 a1_7 a1_8 a1_9 a1_10 a1_11 a1_12 a1_13 a1_14 a1_15 a1_16 a1_17 a1_18 a1_19 a1_20)) = some r := by rw [if_neg (show ¬ (false = true) by decide)] at H; exact H
        clear H
        have H := H1
        clear H1
        replace H := Option.bind_eq_some_iff.mp H
        obtain ⟨t104, A90, H⟩ := H
        replace H : (remoraref21_Data.j0 k a0 t104 a1_0 a1_1 a1_2 a1_3 a1_4 a1_5 a1_6 a1_7 a1_8 a1_9 a1_10 a1_11 a1_12 a1_13 a1_14 a1_15 a1_16 a1_17 a1_18 a1_19 a1_20) = some r := H
        have A9 := Aside0.mk A90
        clear A90
        have H' := Aside0.mk H
        clear H
        go_wp2_with (first | ((with_reducible refine gate_callee (f := 24) rfl ?_); refine goesL_ (some 6) rfl rfl Try.func24 (by kernel_rfl) rfl #[.int .i64 a0, .int .i64 1] rfl (by (try simp only [List.map_toArray, List.map_cons, List.map_nil]); first | done | rfl | (simp only [List.length_drop, List.length_take]; rfl)) ?_; (with_reducible refine (remoraref21_has.calls a0 1 false _ A5.out).mono ?_); rintro e w' ⟨rfl, ⟨nd, rfl⟩⟩; refine ⟨_, rfl, ?_⟩) | (go_at_call 24; (with_reducible refine (remoraref21_has.calls a0 2 false _ A7.out).mono ?_); rintro e w' ⟨rfl, ⟨nd, rfl⟩⟩) | (go_at_call 24; (with_reducible refine (remoraref21_has.calls a0 4 t104 _ A9.out).mono ?_); rintro e w' ⟨rfl, ⟨nd, rfl⟩⟩))
        go_meet
        case rel => exact ⟨_, (t104), (by first | rfl | (simp; done) | (simp [*]; done)), H', ⟨by first | omega | exact Nat.le_refl _⟩, ⟨by (with_reducible repeat (first | refine blk_drewN ?_ _ | refine blk_drew ?_ | refine blk_alloc ?_ _)); exact BK101.out⟩, ⟨by repeat (first | (with_reducible first | exact HB.out | apply below_alloc | apply pw_below_drewN | apply below_drew1 | refine below_set ?_ GE101.out) | exact HB.out)⟩⟩
  case rest =>
    clear HC3
    try clear c1
    try clear c2
    try clear p2
    try clear c6
    try clear c8
    obtain ⟨kq, x14_2, rfl, HA, HJ2, BK101, HB⟩ := hcut
    cases kq with
    | zero => exact absurd HA.out (by simp [remoraref21_Data.j0])
    | succ kj2 =>
      have H := HA.out
      clear HA
      simp only [remoraref21_Data.j0] at H
      by_cases c10 : x14_2 = true
      · subst c10
        have H1 : (some true) = some r := by rw [if_pos rfl] at H; exact H
        clear H
        have H := H1
        clear H1
        obtain rfl := Option.some.inj H
        go_wp2
        go_ret
        exact ⟨by first | rfl | (simp [errW_none, errW_some] <;> rfl) | (simp [*, errW_none, errW_some] <;> rfl), by repeat (first | (with_reducible first | exact HB.out | apply below_alloc | apply pw_below_drewN | apply below_drew1 | refine below_set ?_ GE101.out) | exact HB.out)⟩
      · replace c10 := Bool.eq_false_iff.mpr c10
        subst c10
        have H1 : (if a1_2 = true then ((remoraref21_has.f a0 128).bind fun t105 => (some t105)) else (if a1_3 = true then (some false) else ((remoraref21_has.f a0 8).bind fun t106 => (some t106)))) = some r := by rw [if_neg (show ¬ (false = true) by decide)] at H; exact H
        clear H
        have H := H1
        clear H1
        by_cases c11 : a1_2 = true
        · subst c11
          have H1 : ((remoraref21_has.f a0 128).bind fun t105 => (some t105)) = some r := by rw [if_pos rfl] at H; exact H
          clear H
          have H := H1
          clear H1
          replace H := Option.bind_eq_some_iff.mp H
          obtain ⟨t105, A120, H⟩ := H
          replace H : (some t105) = some r := H
          have A12 := Aside0.mk A120
          clear A120
          obtain rfl := Option.some.inj H
          have hcz13_0 : wc.cell? ⟨gb101, 0, none⟩ = some (.int .i64 a1_0) := (blk_cell BK101.out 0).trans rfl
          have hcz13_1 : wc.cell? ⟨gb101, 1, none⟩ = some (.int .i64 a1_1) := (blk_cell BK101.out 1).trans rfl
          have hcz13_2 : wc.cell? ⟨gb101, 2, none⟩ = some (.bool true) := (blk_cell BK101.out 2).trans rfl
          have hcz13_3 : wc.cell? ⟨gb101, 3, none⟩ = some (.bool a1_3) := (blk_cell BK101.out 3).trans rfl
          have hcz13_4 : wc.cell? ⟨gb101, 4, none⟩ = some (.bool a1_4) := (blk_cell BK101.out 4).trans rfl
          have hcz13_5 : wc.cell? ⟨gb101, 5, none⟩ = some (.bool a1_5) := (blk_cell BK101.out 5).trans rfl
          have hcz13_6 : wc.cell? ⟨gb101, 6, none⟩ = some (.bool a1_6) := (blk_cell BK101.out 6).trans rfl
          have hcz13_7 : wc.cell? ⟨gb101, 7, none⟩ = some (.bool a1_7) := (blk_cell BK101.out 7).trans rfl
          have hcz13_8 : wc.cell? ⟨gb101, 8, none⟩ = some (.bool a1_8) := (blk_cell BK101.out 8).trans rfl
          have hcz13_9 : wc.cell? ⟨gb101, 9, none⟩ = some (.bool a1_9) := (blk_cell BK101.out 9).trans rfl
          have hcz13_10 : wc.cell? ⟨gb101, 10, none⟩ = some (.bool a1_10) := (blk_cell BK101.out 10).trans rfl
          have hcz13_11 : wc.cell? ⟨gb101, 11, none⟩ = some (.bool a1_11) := (blk_cell BK101.out 11).trans rfl
          have hcz13_12 : wc.cell? ⟨gb101, 12, none⟩ = some (.bool a1_12) := (blk_cell BK101.out 12).trans rfl
          have hcz13_13 : wc.cell? ⟨gb101, 13, none⟩ = some (.bool a1_13) := (blk_cell BK101.out 13).trans rfl
          have hcz13_14 : wc.cell? ⟨gb101, 14, none⟩ = some (.bool a1_14) := (blk_cell BK101.out 14).trans rfl
          have hcz13_15 : wc.cell? ⟨gb101, 15, none⟩ = some (.bool a1_15) := (blk_cell BK101.out 15).trans rfl
          have hcz13_16 : wc.cell? ⟨gb101, 16, none⟩ = some (.bool a1_16) := (blk_cell BK101.out 16).trans rfl
          have hcz13_17 : wc.cell? ⟨gb101, 17, none⟩ = some (.bool a1_17) := (blk_cell BK101.out 17).trans rfl
          have hcz13_18 : wc.cell? ⟨gb101, 18, none⟩ = some (.int .i64 a1_18) := (blk_cell BK101.out 18).trans rfl
          have hcz13_19 : wc.cell? ⟨gb101, 19, none⟩ = some (.int .i64 a1_19) := (blk_cell BK101.out 19).trans rfl
          have hcz13_20 : wc.cell? ⟨gb101, 20, none⟩ = some (.int .i64 a1_20) := (blk_cell BK101.out 20).trans rfl
          have hfz13_0 := blk_frozen BK101.out 0
          have hfz13_1 := blk_frozen BK101.out 1
          have hfz13_2 := blk_frozen BK101.out 2
          have hfz13_3 := blk_frozen BK101.out 3
          have hfz13_4 := blk_frozen BK101.out 4
          have hfz13_5 := blk_frozen BK101.out 5
          have hfz13_6 := blk_frozen BK101.out 6
          have hfz13_7 := blk_frozen BK101.out 7
          have hfz13_8 := blk_frozen BK101.out 8
          have hfz13_9 := blk_frozen BK101.out 9
          have hfz13_10 := blk_frozen BK101.out 10
          have hfz13_11 := blk_frozen BK101.out 11
          have hfz13_12 := blk_frozen BK101.out 12
          have hfz13_13 := blk_frozen BK101.out 13
          have hfz13_14 := blk_frozen BK101.out 14
          have hfz13_15 := blk_frozen BK101.out 15
          have hfz13_16 := blk_frozen BK101.out 16
          have hfz13_17 := blk_frozen BK101.out 17
          have hfz13_18 := blk_frozen BK101.out 18
          have hfz13_19 := blk_frozen BK101.out 19
          have hfz13_20 := blk_frozen BK101.out 20
          go_wp2_with (first | ((with_reducible refine gate_callee (f := 24) rfl ?_); refine goesL_ (some 18) rfl rfl Try.func24 (by kernel_rfl) rfl #[.int .i64 a0, .int .i64 128] rfl (by (try simp only [List.map_toArray, List.map_cons, List.map_nil]); first | done | rfl | (simp only [List.length_drop, List.length_take]; rfl)) ?_; (with_reducible refine (remoraref21_has.calls a0 128 t105 _ A12.out).mono ?_); rintro e w' ⟨rfl, ⟨nd, rfl⟩⟩; refine ⟨_, rfl, ?_⟩))
          go_ret
          exact ⟨by first | rfl | (simp [errW_none, errW_some] <;> rfl) | (simp [*, errW_none, errW_some] <;> rfl), by repeat (first | (with_reducible first | exact HB.out | apply below_alloc | apply pw_below_drewN | apply below_drew1 | refine below_set ?_ GE101.out) | exact HB.out)⟩
        · replace c11 := Bool.eq_false_iff.mpr c11
          subst c11
          have H1 : (if a1_3 = true then (some false) else ((remoraref21_has.f a0 8).bind fun t106 => (some t106))) = some r := by rw [if_neg (show ¬ (false = true) by decide)] at H; exact H
          clear H
          have H := H1
          clear H1
          by_cases c14 : a1_3 = true
          · subst c14
            have H1 : (some false) = some r := by rw [if_pos rfl] at H; exact H
            clear H
            have H := H1
            clear H1
            obtain rfl := Option.some.inj H
            have hcz15_0 : wc.cell? ⟨gb101, 0, none⟩ = some (.int .i64 a1_0) := (blk_cell BK101.out 0).trans rfl
            have hcz15_1 : wc.cell? ⟨gb101, 1, none⟩ = some (.int .i64 a1_1) := (blk_cell BK101.out 1).trans rfl
            have hcz15_2 : wc.cell? ⟨gb101, 2, none⟩ = some (.bool false) := (blk_cell BK101.out 2).trans rfl
            have hcz15_3 : wc.cell? ⟨gb101, 3, none⟩ = some (.bool true) := (blk_cell BK101.out 3).trans rfl
            have hcz15_4 : wc.cell? ⟨gb101, 4, none⟩ = some (.bool a1_4) := (blk_cell BK101.out 4).trans rfl
            have hcz15_5 : wc.cell? ⟨gb101, 5, none⟩ = some (.bool a1_5) := (blk_cell BK101.out 5).trans rfl
            have hcz15_6 : wc.cell? ⟨gb101, 6, none⟩ = some (.bool a1_6) := (blk_cell BK101.out 6).trans rfl
            have hcz15_7 : wc.cell? ⟨gb101, 7, none⟩ = some (.bool a1_7) := (blk_cell BK101.out 7).trans rfl
            have hcz15_8 : wc.cell? ⟨gb101, 8, none⟩ = some (.bool a1_8) := (blk_cell BK101.out 8).trans rfl
            have hcz15_9 : wc.cell? ⟨gb101, 9, none⟩ = some (.bool a1_9) := (blk_cell BK101.out 9).trans rfl
            have hcz15_10 : wc.cell? ⟨gb101, 10, none⟩ = some (.bool a1_10) := (blk_cell BK101.out 10).trans rfl
            have hcz15_11 : wc.cell? ⟨gb101, 11, none⟩ = some (.bool a1_11) := (blk_cell BK101.out 11).trans rfl
            have hcz15_12 : wc.cell? ⟨gb101, 12, none⟩ = some (.bool a1_12) := (blk_cell BK101.out 12).trans rfl
            have hcz15_13 : wc.cell? ⟨gb101, 13, none⟩ = some (.bool a1_13) := (blk_cell BK101.out 13).trans rfl
            have hcz15_14 : wc.cell? ⟨gb101, 14, none⟩ = some (.bool a1_14) := (blk_cell BK101.out 14).trans rfl
            have hcz15_15 : wc.cell? ⟨gb101, 15, none⟩ = some (.bool a1_15) := (blk_cell BK101.out 15).trans rfl
            have hcz15_16 : wc.cell? ⟨gb101, 16, none⟩ = some (.bool a1_16) := (blk_cell BK101.out 16).trans rfl
            have hcz15_17 : wc.cell? ⟨gb101, 17, none⟩ = some (.bool a1_17) := (blk_cell BK101.out 17).trans rfl
            have hcz15_18 : wc.cell? ⟨gb101, 18, none⟩ = some (.int .i64 a1_18) := (blk_cell BK101.out 18).trans rfl
            have hcz15_19 : wc.cell? ⟨gb101, 19, none⟩ = some (.int .i64 a1_19) := (blk_cell BK101.out 19).trans rfl
            have hcz15_20 : wc.cell? ⟨gb101, 20, none⟩ = some (.int .i64 a1_20) := (blk_cell BK101.out 20).trans rfl
            have hfz15_0 := blk_frozen BK101.out 0
            have hfz15_1 := blk_frozen BK101.out 1
            have hfz15_2 := blk_frozen BK101.out 2
            have hfz15_3 := blk_frozen BK101.out 3
            have hfz15_4 := blk_frozen BK101.out 4
            have hfz15_5 := blk_frozen BK101.out 5
            have hfz15_6 := blk_frozen BK101.out 6
            have hfz15_7 := blk_frozen BK101.out 7
            have hfz15_8 := blk_frozen BK101.out 8
            have hfz15_9 := blk_frozen BK101.out 9
            have hfz15_10 := blk_frozen BK101.out 10
            have hfz15_11 := blk_frozen BK101.out 11
            have hfz15_12 := blk_frozen BK101.out 12
            have hfz15_13 := blk_frozen BK101.out 13
            have hfz15_14 := blk_frozen BK101.out 14
            have hfz15_15 := blk_frozen BK101.out 15
            have hfz15_16 := blk_frozen BK101.out 16
            have hfz15_17 := blk_frozen BK101.out 17
            have hfz15_18 := blk_frozen BK101.out 18
            have hfz15_19 := blk_frozen BK101.out 19
            have hfz15_20 := blk_frozen BK101.out 20
            go_wp2
            go_ret
            exact ⟨by first | rfl | (simp [errW_none, errW_some] <;> rfl) | (simp [*, errW_none, errW_some] <;> rfl), by repeat (first | (with_reducible first | exact HB.out | apply below_alloc | apply pw_below_drewN | apply below_drew1 | refine below_set ?_ GE101.out) | exact HB.out)⟩
          · replace c14 := Bool.eq_false_iff.mpr c14
            subst c14
            have H1 : ((remoraref21_has.f a0 8).bind fun t106 => (some t106)) = some r := by rw [if_neg (show ¬ (false = true) by decide)] at H; exact H
            clear H
            have H := H1
            clear H1
            replace H := Option.bind_eq_some_iff.mp H
            obtain ⟨t106, A160, H⟩ := H
            replace H : (some t106) = some r := H
            have A16 := Aside0.mk A160
            clear A160
            obtain rfl := Option.some.inj H
            have hcz17_0 : wc.cell? ⟨gb101, 0, none⟩ = some (.int .i64 a1_0) := (blk_cell BK101.out 0).trans rfl
            have hcz17_1 : wc.cell? ⟨gb101, 1, none⟩ = some (.int .i64 a1_1) := (blk_cell BK101.out 1).trans rfl
            have hcz17_2 : wc.cell? ⟨gb101, 2, none⟩ = some (.bool false) := (blk_cell BK101.out 2).trans rfl
            have hcz17_3 : wc.cell? ⟨gb101, 3, none⟩ = some (.bool false) := (blk_cell BK101.out 3).trans rfl
            have hcz17_4 : wc.cell? ⟨gb101, 4, none⟩ = some (.bool a1_4) := (blk_cell BK101.out 4).trans rfl
            have hcz17_5 : wc.cell? ⟨gb101, 5, none⟩ = some (.bool a1_5) := (blk_cell BK101.out 5).trans rfl
            have hcz17_6 : wc.cell? ⟨gb101, 6, none⟩ = some (.bool a1_6) := (blk_cell BK101.out 6).trans rfl
            have hcz17_7 : wc.cell? ⟨gb101, 7, none⟩ = some (.bool a1_7) := (blk_cell BK101.out 7).trans rfl
            have hcz17_8 : wc.cell? ⟨gb101, 8, none⟩ = some (.bool a1_8) := (blk_cell BK101.out 8).trans rfl
            have hcz17_9 : wc.cell? ⟨gb101, 9, none⟩ = some (.bool a1_9) := (blk_cell BK101.out 9).trans rfl
            have hcz17_10 : wc.cell? ⟨gb101, 10, none⟩ = some (.bool a1_10) := (blk_cell BK101.out 10).trans rfl
            have hcz17_11 : wc.cell? ⟨gb101, 11, none⟩ = some (.bool a1_11) := (blk_cell BK101.out 11).trans rfl
            have hcz17_12 : wc.cell? ⟨gb101, 12, none⟩ = some (.bool a1_12) := (blk_cell BK101.out 12).trans rfl
            have hcz17_13 : wc.cell? ⟨gb101, 13, none⟩ = some (.bool a1_13) := (blk_cell BK101.out 13).trans rfl
            have hcz17_14 : wc.cell? ⟨gb101, 14, none⟩ = some (.bool a1_14) := (blk_cell BK101.out 14).trans rfl
            have hcz17_15 : wc.cell? ⟨gb101, 15, none⟩ = some (.bool a1_15) := (blk_cell BK101.out 15).trans rfl
            have hcz17_16 : wc.cell? ⟨gb101, 16, none⟩ = some (.bool a1_16) := (blk_cell BK101.out 16).trans rfl
            have hcz17_17 : wc.cell? ⟨gb101, 17, none⟩ = some (.bool a1_17) := (blk_cell BK101.out 17).trans rfl
            have hcz17_18 : wc.cell? ⟨gb101, 18, none⟩ = some (.int .i64 a1_18) := (blk_cell BK101.out 18).trans rfl
            have hcz17_19 : wc.cell? ⟨gb101, 19, none⟩ = some (.int .i64 a1_19) := (blk_cell BK101.out 19).trans rfl
            have hcz17_20 : wc.cell? ⟨gb101, 20, none⟩ = some (.int .i64 a1_20) := (blk_cell BK101.out 20).trans rfl
            have hfz17_0 := blk_frozen BK101.out 0
            have hfz17_1 := blk_frozen BK101.out 1
            have hfz17_2 := blk_frozen BK101.out 2
            have hfz17_3 := blk_frozen BK101.out 3
            have hfz17_4 := blk_frozen BK101.out 4
            have hfz17_5 := blk_frozen BK101.out 5
            have hfz17_6 := blk_frozen BK101.out 6
            have hfz17_7 := blk_frozen BK101.out 7
            have hfz17_8 := blk_frozen BK101.out 8
            have hfz17_9 := blk_frozen BK101.out 9
            have hfz17_10 := blk_frozen BK101.out 10
            have hfz17_11 := blk_frozen BK101.out 11
            have hfz17_12 := blk_frozen BK101.out 12
            have hfz17_13 := blk_frozen BK101.out 13
            have hfz17_14 := blk_frozen BK101.out 14
            have hfz17_15 := blk_frozen BK101.out 15
            have hfz17_16 := blk_frozen BK101.out 16
            have hfz17_17 := blk_frozen BK101.out 17
            have hfz17_18 := blk_frozen BK101.out 18
            have hfz17_19 := blk_frozen BK101.out 19
            have hfz17_20 := blk_frozen BK101.out 20
            go_wp2_with (first | (go_at_call 24; (with_reducible refine (remoraref21_has.calls a0 8 t106 _ A16.out).mono ?_); rintro e w' ⟨rfl, ⟨nd, rfl⟩⟩))
            go_ret
            exact ⟨by first | rfl | (simp [errW_none, errW_some] <;> rfl) | (simp [*, errW_none, errW_some] <;> rfl), by repeat (first | (with_reducible first | exact HB.out | apply below_alloc | apply pw_below_drewN | apply below_drew1 | refine below_set ?_ GE101.out) | exact HB.out)⟩

end Go.Proofs.Ytniedfbchcgaoaa.PA
