-- Written by a program of this session (the kit's print with this repo's externals: px.py).
import Derived.Test.YtniedfbchcgaoaaPAx0
namespace Go.Proofs.Ytniedfbchcgaoaa.PA
open Go.RowKit Go.Proofs.YtniedfbchcgaoaaW.PrintWords Go.Proofs.YtniedfbchcgaoaaW.PrintLast Go.Proofs.YtniedfbchcgaoaaW.PrintMore
attribute [local go_sem] max2_int min2_int max_two min_two max_three min_three max_four min_four   -- for this text's walks alone
set_option linter.unusedVariables false
set_option linter.unusedSimpArgs false

/-! ### meta_Take: function 20 -/
def meta_Take.j0 : Nat → Int → Int → Int → Int → Int → Int → Int → Int → Int → Int → Int → Int → Bool → Bool → Bool → Bool → Bool → Bool → Bool → Bool → Bool → Bool → Bool → Bool → Bool → Bool → Bool → Bool → Int → Int → Int → Option (Int × Int × Int × Int × Int)
  | 0, _, _, _, _, _, _, _, _, _, _, _, _, _, _, _, _, _, _, _, _, _, _, _, _, _, _, _, _, _, _, _ => none
  | k + 1, x102000, x102001, x102002, x102003, x102004, x103000, x103001, x103002, x103003, x103004, x104000, x104001, x104002, x104003, x104004, x104005, x104006, x104007, x104008, x104009, x104010, x104011, x104012, x104013, x104014, x104015, x104016, x104017, x104018, x104019, x104020 => if x104008 = true then (if x104009 = true then (some (x103000, x102001, x102002, x102003, x102004)) else (some (x103000, x102001, x102002, x103003, x103004))) else (if x104009 = true then (some (x103000, x103001, x103002, x102003, x102004)) else (some (x103000, x103001, x103002, x103003, x103004)))
def meta_Take.f (k : Nat) (a0_0 : Int) (a0_1 : Int) (a0_2 : Int) (a0_3 : Int) (a0_4 : Int) (a1_0 : Int) (a1_1 : Int) (a1_2 : Int) (a1_3 : Int) (a1_4 : Int) (a2_0 : Int) (a2_1 : Int) (a2_2 : Bool) (a2_3 : Bool) (a2_4 : Bool) (a2_5 : Bool) (a2_6 : Bool) (a2_7 : Bool) (a2_8 : Bool) (a2_9 : Bool) (a2_10 : Bool) (a2_11 : Bool) (a2_12 : Bool) (a2_13 : Bool) (a2_14 : Bool) (a2_15 : Bool) (a2_16 : Bool) (a2_17 : Bool) (a2_18 : Int) (a2_19 : Int) (a2_20 : Int) : Option (Int × Int × Int × Int × Int) := if a2_7 = true then (meta_Take.j0 k a0_0 a0_1 a0_2 a0_3 a0_4 a0_0 a1_1 a1_2 a1_3 a1_4 a2_0 a2_1 a2_2 a2_3 a2_4 a2_5 a2_6 a2_7 a2_8 a2_9 a2_10 a2_11 a2_12 a2_13 a2_14 a2_15 a2_16 a2_17 a2_18 a2_19 a2_20) else (meta_Take.j0 k a0_0 a0_1 a0_2 a0_3 a0_4 a1_0 a1_1 a1_2 a1_3 a1_4 a2_0 a2_1 a2_2 a2_3 a2_4 a2_5 a2_6 a2_7 a2_8 a2_9 a2_10 a2_11 a2_12 a2_13 a2_14 a2_15 a2_16 a2_17 a2_18 a2_19 a2_20)
theorem meta_Take.mono_l : ∀ k, (∀ y0 y1 y2 y3 y4 y5 y6 y7 y8 y9 y10 y11 y12 y13 y14 y15 y16 y17 y18 y19 y20 y21 y22 y23 y24 y25 y26 y27 y28 y29 y30, LeO (meta_Take.j0 k y0 y1 y2 y3 y4 y5 y6 y7 y8 y9 y10 y11 y12 y13 y14 y15 y16 y17 y18 y19 y20 y21 y22 y23 y24 y25 y26 y27 y28 y29 y30) (meta_Take.j0 (k + 1) y0 y1 y2 y3 y4 y5 y6 y7 y8 y9 y10 y11 y12 y13 y14 y15 y16 y17 y18 y19 y20 y21 y22 y23 y24 y25 y26 y27 y28 y29 y30))
  | 0 => fun _ _ _ _ _ _ _ _ _ _ _ _ _ _ _ _ _ _ _ _ _ _ _ _ _ _ _ _ _ _ _ r h => by simp [meta_Take.j0] at h
  | k + 1 => by
    have ih0 := meta_Take.mono_l k
    · intro y0 y1 y2 y3 y4 y5 y6 y7 y8 y9 y10 y11 y12 y13 y14 y15 y16 y17 y18 y19 y20 y21 y22 y23 y24 y25 y26 y27 y28 y29 y30
      unfold meta_Take.j0
      repeat' first
      | (with_reducible exact ih0 _ _ _ _ _ _ _ _ _ _ _ _ _ _ _ _ _ _ _ _ _ _ _ _ _ _ _ _ _ _ _)
      | (with_reducible exact LeO.refl _)
      | (with_reducible exact LeO.none _)
      | (with_reducible refine LeO.ite ?_ ?_)
      | (with_reducible refine LeO.bind ?_ (fun _ => ?_))
      | exact ih0 _ _ _ _ _ _ _ _ _ _ _ _ _ _ _ _ _ _ _ _ _ _ _ _ _ _ _ _ _ _ _
      | exact LeO.none _
      | refine LeO.ite ?_ ?_
      | refine LeO.bind ?_ (fun _ => ?_)
theorem meta_Take.mono : ∀ a0 a1 a2 a3 a4 a5 a6 a7 a8 a9 a10 a11 a12 a13 a14 a15 a16 a17 a18 a19 a20 a21 a22 a23 a24 a25 a26 a27 a28 a29 a30 k, LeO (meta_Take.f k a0 a1 a2 a3 a4 a5 a6 a7 a8 a9 a10 a11 a12 a13 a14 a15 a16 a17 a18 a19 a20 a21 a22 a23 a24 a25 a26 a27 a28 a29 a30) (meta_Take.f (k + 1) a0 a1 a2 a3 a4 a5 a6 a7 a8 a9 a10 a11 a12 a13 a14 a15 a16 a17 a18 a19 a20 a21 a22 a23 a24 a25 a26 a27 a28 a29 a30) := by
  intro a0 a1 a2 a3 a4 a5 a6 a7 a8 a9 a10 a11 a12 a13 a14 a15 a16 a17 a18 a19 a20 a21 a22 a23 a24 a25 a26 a27 a28 a29 a30 k
  have ih0 := meta_Take.mono_l k
  unfold meta_Take.f
  repeat' first
      | (with_reducible exact ih0 _ _ _ _ _ _ _ _ _ _ _ _ _ _ _ _ _ _ _ _ _ _ _ _ _ _ _ _ _ _ _)
      | (with_reducible exact LeO.refl _)
      | (with_reducible exact LeO.none _)
      | (with_reducible refine LeO.ite ?_ ?_)
      | (with_reducible refine LeO.bind ?_ (fun _ => ?_))
      | exact ih0 _ _ _ _ _ _ _ _ _ _ _ _ _ _ _ _ _ _ _ _ _ _ _ _ _ _ _ _ _ _ _
      | exact LeO.none _
      | refine LeO.ite ?_ ?_
      | refine LeO.bind ?_ (fun _ => ?_)
def meta_Take.T4 : Bool × List (List Nat × List Nat) := (true, [([], []), ([0], [0]), ([], []), ([2], [2]), ([0, 1], []), ([4, 1, 0, 1], [1, 4]), ([0, 1, 2, 3, 4, 5], []), ([6, 3, 5, 0, 1, 2, 3, 4, 5], [3, 6])])
def meta_Take.B4 : List Nat := [0, 1, 0, 4, 3, 19, 63, 127]
theorem meta_Take.tab4 : rtab .any (opsOf Try.f20 4) = meta_Take.T4 := by kernel_rfl
theorem meta_Take.bits4 : waitsOk meta_Take.T4.2 meta_Take.B4 = true := by kernel_rfl
def meta_Take.T6 : Bool × List (List Nat × List Nat) := (true, [([], []), ([0], [0]), ([], []), ([2], [2]), ([0, 1], []), ([4, 1, 0, 1], [1, 4]), ([0, 1, 2, 3, 4, 5], []), ([6, 3, 5, 0, 1, 2, 3, 4, 5], [3, 6])])
def meta_Take.B6 : List Nat := [0, 1, 0, 4, 3, 19, 63, 127]
theorem meta_Take.tab6 : rtab .any (opsOf Try.f20 6) = meta_Take.T6 := by kernel_rfl
theorem meta_Take.bits6 : waitsOk meta_Take.T6.2 meta_Take.B6 = true := by kernel_rfl
set_option maxHeartbeats 8000000 in
set_option maxRecDepth 100000 in
theorem meta_Take.calls (k : Nat) (a0_0 : Int) (a0_1 : Int) (a0_2 : Int) (a0_3 : Int) (a0_4 : Int) (a1_0 : Int) (a1_1 : Int) (a1_2 : Int) (a1_3 : Int) (a1_4 : Int) (a2_0 : Int) (a2_1 : Int) (a2_2 : Bool) (a2_3 : Bool) (a2_4 : Bool) (a2_5 : Bool) (a2_6 : Bool) (a2_7 : Bool) (a2_8 : Bool) (a2_9 : Bool) (a2_10 : Bool) (a2_11 : Bool) (a2_12 : Bool) (a2_13 : Bool) (a2_14 : Bool) (a2_15 : Bool) (a2_16 : Bool) (a2_17 : Bool) (a2_18 : Int) (a2_19 : Int) (a2_20 : Int) (r1 : Int) (r2 : Int) (r3 : Int) (r4 : Int) (r5 : Int) (w : World) (h : meta_Take.f k a0_0 a0_1 a0_2 a0_3 a0_4 a1_0 a1_1 a1_2 a1_3 a1_4 a2_0 a2_1 a2_2 a2_3 a2_4 a2_5 a2_6 a2_7 a2_8 a2_9 a2_10 a2_11 a2_12 a2_13 a2_14 a2_15 a2_16 a2_17 a2_18 a2_19 a2_20 = some (r1, r2, r3, r4, r5)) :
    Calls Try.prog 20 #[.agg #[.int .i64 a0_0, .int .i64 a0_1, .int .i64 a0_2, .int .i64 a0_3, .int .i64 a0_4], .agg #[.int .i64 a1_0, .int .i64 a1_1, .int .i64 a1_2, .int .i64 a1_3, .int .i64 a1_4], .agg #[.int .i64 a2_0, .int .i64 a2_1, .bool a2_2, .bool a2_3, .bool a2_4, .bool a2_5, .bool a2_6, .bool a2_7, .bool a2_8, .bool a2_9, .bool a2_10, .bool a2_11, .bool a2_12, .bool a2_13, .bool a2_14, .bool a2_15, .bool a2_16, .bool a2_17, .int .i64 a2_18, .int .i64 a2_19, .int .i64 a2_20]] w fun e w' => e = .returned (.agg #[.int .i64 r1, .int .i64 r2, .int .i64 r3, .int .i64 r4, .int .i64 r5]) ∧ Below w.heap.size w w' := by
  have hu23 := Try.underlying23
  have hu27 := Try.underlying27
  have HB := Aside0.mk (Below.refl w.heap.size w)
  have H : (if a2_7 = true then (meta_Take.j0 k a0_0 a0_1 a0_2 a0_3 a0_4 a0_0 a1_1 a1_2 a1_3 a1_4 a2_0 a2_1 a2_2 a2_3 a2_4 a2_5 a2_6 a2_7 a2_8 a2_9 a2_10 a2_11 a2_12 a2_13 a2_14 a2_15 a2_16 a2_17 a2_18 a2_19 a2_20) else (meta_Take.j0 k a0_0 a0_1 a0_2 a0_3 a0_4 a1_0 a1_1 a1_2 a1_3 a1_4 a2_0 a2_1 a2_2 a2_3 a2_4 a2_5 a2_6 a2_7 a2_8 a2_9 a2_10 a2_11 a2_12 a2_13 a2_14 a2_15 a2_16 a2_17 a2_18 a2_19 a2_20)) = some (r1, r2, r3, r4, r5) := h
  clear h
  have HC4 := Aside0.mk H
  clear H
  go_enter Try.func20, Try.ntmps20
  go_upto_if 8 with (first | ((with_reducible refine gate_dst (N := 3) rfl ?_); refine box_event ?hg (N := 3) ?hd (cs := #[.int .i64 a0_0, .int .i64 a0_1, .int .i64 a0_2, .int .i64 a0_3, .int .i64 a0_4]) (t := 23) ?hr ?_; (case hd => rfl); (case hg => rfl); (case hr => first | (go_simp; done) | (go_simp; rfl)); intro gb101 hg w5 hbox hb; have n0_ := Aside0.mk (below_step (by repeat (first | (with_reducible first | exact HB.out | apply below_alloc | apply pw_below_drewN | apply below_drew1) | exact HB.out)) hb); have n1_ := Aside0.mk (hbox); have n2_ := Aside0.mk ((by rw [hg]; exact (below_size (by repeat (first | (with_reducible first | exact HB.out | apply below_alloc | apply pw_below_drewN | apply below_drew1) | exact HB.out))) : w.heap.size ≤ gb101)); have n3_ := Aside0.mk ((by rw [hg]; exact (below_size (by repeat (first | (with_reducible first | exact HB.out | apply below_alloc | apply pw_below_drewN | apply below_drew1) | exact HB.out))) : w.heap.size ≤ gb101)); clear HB; have HB := n0_; have BK101 := n1_; have GW101 := n2_; have GE101 := n3_; clear n0_ n1_ n2_ n3_; clear hb hbox hg) | ((with_reducible refine gate_dst (N := 4) rfl ?_); refine box_event ?hg (N := 4) ?hd (cs := #[.int .i64 a1_0, .int .i64 a1_1, .int .i64 a1_2, .int .i64 a1_3, .int .i64 a1_4]) (t := 23) ?hr ?_; (case hd => rfl); (case hg => rfl); (case hr => first | (go_simp; done) | (go_simp; rfl)); intro gb102 hg w6 hbox hb; have n0_ := Aside0.mk (blk_below (g := gb101) (o := .cells #[.int .i64 a0_0, .int .i64 a0_1, .int .i64 a0_2, .int .i64 a0_3, .int .i64 a0_4] 23 (0, 0)) (by (with_reducible repeat (first | refine blk_drewN ?_ _ | refine blk_drew ?_ | refine blk_alloc ?_ _)); exact BK101.out) hb); have n1_ := Aside0.mk (below_step (by repeat (first | (with_reducible first | exact HB.out | apply below_alloc | apply pw_below_drewN | apply below_drew1 | refine below_set ?_ GE101.out) | exact HB.out)) hb); have n2_ := Aside0.mk (hbox); have n3_ := Aside0.mk ((by rw [hg]; exact (below_size (by repeat (first | (with_reducible first | exact HB.out | apply below_alloc | apply pw_below_drewN | apply below_drew1 | refine below_set ?_ GE101.out) | exact HB.out))) : w.heap.size ≤ gb102)); have n4_ := Aside0.mk ((by rw [hg]; exact (below_size (by repeat (first | (with_reducible first | exact HB.out | apply below_alloc | apply pw_below_drewN | apply below_drew1 | refine below_set ?_ GE101.out) | exact HB.out))) : w.heap.size ≤ gb102)); have n5_ := Aside0.mk ((by rw [hg]; exact Nat.ne_of_lt (blk_lt (g := gb101) (o := .cells #[.int .i64 a0_0, .int .i64 a0_1, .int .i64 a0_2, .int .i64 a0_3, .int .i64 a0_4] 23 (0, 0)) (by (with_reducible repeat (first | refine blk_drewN ?_ _ | refine blk_drew ?_ | refine blk_alloc ?_ _)); exact BK101.out)) : gb101 ≠ gb102)); have n6_ := Aside0.mk ((by rw [hg]; exact Nat.ne_of_gt (blk_lt (g := gb101) (o := .cells #[.int .i64 a0_0, .int .i64 a0_1, .int .i64 a0_2, .int .i64 a0_3, .int .i64 a0_4] 23 (0, 0)) (by (with_reducible repeat (first | refine blk_drewN ?_ _ | refine blk_drew ?_ | refine blk_alloc ?_ _)); exact BK101.out)) : gb102 ≠ gb101)); clear BK101; clear HB; have BK101 := n0_; have HB := n1_; have BK102 := n2_; have GW102 := n3_; have GE102 := n4_; have NB101_102 := n5_; have NB102_101 := n6_; clear n0_ n1_ n2_ n3_ n4_ n5_ n6_; clear hb hbox hg) | ((with_reducible refine gate_dst (N := 5) rfl ?_); refine box_event ?hg (N := 5) ?hd (cs := #[.int .i64 a2_0, .int .i64 a2_1, .bool a2_2, .bool a2_3, .bool a2_4, .bool a2_5, .bool a2_6, .bool a2_7, .bool a2_8, .bool a2_9, .bool a2_10, .bool a2_11, .bool a2_12, .bool a2_13, .bool a2_14, .bool a2_15, .bool a2_16, .bool a2_17, .int .i64 a2_18, .int .i64 a2_19, .int .i64 a2_20]) (t := 27) ?hr ?_; (case hd => rfl); (case hg => rfl); (case hr => first | (go_simp; done) | (go_simp; rfl)); intro gb103 hg w7 hbox hb; have n0_ := Aside0.mk (blk_below (g := gb101) (o := .cells #[.int .i64 a0_0, .int .i64 a0_1, .int .i64 a0_2, .int .i64 a0_3, .int .i64 a0_4] 23 (0, 0)) (by (with_reducible repeat (first | refine blk_drewN ?_ _ | refine blk_drew ?_ | refine blk_alloc ?_ _)); exact BK101.out) hb); have n1_ := Aside0.mk (blk_below (g := gb102) (o := .cells #[.int .i64 a1_0, .int .i64 a1_1, .int .i64 a1_2, .int .i64 a1_3, .int .i64 a1_4] 23 (0, 0)) (by (with_reducible repeat (first | refine blk_drewN ?_ _ | refine blk_drew ?_ | refine blk_alloc ?_ _)); exact BK102.out) hb); have n2_ := Aside0.mk (below_step (by repeat (first | (with_reducible first | exact HB.out | apply below_alloc | apply pw_below_drewN | apply below_drew1 | refine below_set ?_ GE101.out | refine below_set ?_ GE102.out) | exact HB.out)) hb); have n3_ := Aside0.mk (hbox); have n4_ := Aside0.mk ((by rw [hg]; exact (below_size (by repeat (first | (with_reducible first | exact HB.out | apply below_alloc | apply pw_below_drewN | apply below_drew1 | refine below_set ?_ GE101.out | refine below_set ?_ GE102.out) | exact HB.out))) : w.heap.size ≤ gb103)); have n5_ := Aside0.mk ((by rw [hg]; exact (below_size (by repeat (first | (with_reducible first | exact HB.out | apply below_alloc | apply pw_below_drewN | apply below_drew1 | refine below_set ?_ GE101.out | refine below_set ?_ GE102.out) | exact HB.out))) : w.heap.size ≤ gb103)); have n6_ := Aside0.mk ((by rw [hg]; exact Nat.ne_of_lt (blk_lt (g := gb101) (o := .cells #[.int .i64 a0_0, .int .i64 a0_1, .int .i64 a0_2, .int .i64 a0_3, .int .i64 a0_4] 23 (0, 0)) (by (with_reducible repeat (first | refine blk_drewN ?_ _ | refine blk_drew ?_ | refine blk_alloc ?_ _)); exact BK101.out)) : gb101 ≠ gb103)); have n7_ := Aside0.mk ((by rw [hg]; exact Nat.ne_of_gt (blk_lt (g := gb101) (o := .cells #[.int .i64 a0_0, .int .i64 a0_1, .int .i64 a0_2, .int .i64 a0_3, .int .i64 a0_4] 23 (0, 0)) (by (with_reducible repeat (first | refine blk_drewN ?_ _ | refine blk_drew ?_ | refine blk_alloc ?_ _)); exact BK101.out)) : gb103 ≠ gb101)); have n8_ := Aside0.mk ((by rw [hg]; exact Nat.ne_of_lt (blk_lt (g := gb102) (o := .cells #[.int .i64 a1_0, .int .i64 a1_1, .int .i64 a1_2, .int .i64 a1_3, .int .i64 a1_4] 23 (0, 0)) (by (with_reducible repeat (first | refine blk_drewN ?_ _ | refine blk_drew ?_ | refine blk_alloc ?_ _)); exact BK102.out)) : gb102 ≠ gb103)); have n9_ := Aside0.mk ((by rw [hg]; exact Nat.ne_of_gt (blk_lt (g := gb102) (o := .cells #[.int .i64 a1_0, .int .i64 a1_1, .int .i64 a1_2, .int .i64 a1_3, .int .i64 a1_4] 23 (0, 0)) (by (with_reducible repeat (first | refine blk_drewN ?_ _ | refine blk_drew ?_ | refine blk_alloc ?_ _)); exact BK102.out)) : gb103 ≠ gb102)); clear BK101; clear BK102; clear HB; have BK101 := n0_; have BK102 := n1_; have HB := n2_; have BK103 := n3_; have GW103 := n4_; have GE103 := n5_; have NB101_103 := n6_; have NB103_101 := n7_; have NB102_103 := n8_; have NB103_102 := n9_; clear n0_ n1_ n2_ n3_ n4_ n5_ n6_ n7_ n8_ n9_; clear hb hbox hg) | ((with_reducible refine gate_dst (N := 6) rfl ?_); refine box_event ?hg (N := 6) ?hd (cs := #[.int .i64 0, .int .i64 0, .int .i64 0, .int .i64 0, .int .i64 0]) (t := 23) ?hr ?_; (case hd => rfl); (case hg => rfl); (case hr => first | (go_simp; done) | (go_simp; rfl)); intro gb104 hg w8 hbox hb; have n0_ := Aside0.mk (blk_below (g := gb101) (o := .cells #[.int .i64 a0_0, .int .i64 a0_1, .int .i64 a0_2, .int .i64 a0_3, .int .i64 a0_4] 23 (0, 0)) (by (with_reducible repeat (first | refine blk_drewN ?_ _ | refine blk_drew ?_ | refine blk_alloc ?_ _)); exact BK101.out) hb); have n1_ := Aside0.mk (blk_below (g := gb102) (o := .cells #[.int .i64 a1_0, .int .i64 a1_1, .int .i64 a1_2, .int .i64 a1_3, .int .i64 a1_4] 23 (0, 0)) (by (with_reducible repeat (first | refine blk_drewN ?_ _ | refine blk_drew ?_ | refine blk_alloc ?_ _)); exact BK102.out) hb); have n2_ := Aside0.mk (blk_below (g := gb103) (o := .cells #[.int .i64 a2_0, .int .i64 a2_1, .bool a2_2, .bool a2_3, .bool a2_4, .bool a2_5, .bool a2_6, .bool a2_7, .bool a2_8, .bool a2_9, .bool a2_10, .bool a2_11, .bool a2_12, .bool a2_13, .bool a2_14, .bool a2_15, .bool a2_16, .bool a2_17, .int .i64 a2_18, .int .i64 a2_19, .int .i64 a2_20] 27 (0, 0)) (by (with_reducible repeat (first | refine blk_drewN ?_ _ | refine blk_drew ?_ | refine blk_alloc ?_ _)); exact BK103.out) hb); have n3_ := Aside0.mk (below_step (by repeat (first | (with_reducible first | exact HB.out | apply below_alloc | apply pw_below_drewN | apply below_drew1 | refine below_set ?_ GE101.out | refine below_set ?_ GE102.out | refine below_set ?_ GE103.out) | exact HB.out)) hb); have n4_ := Aside0.mk (hbox); have n5_ := Aside0.mk ((by rw [hg]; exact (below_size (by repeat (first | (with_reducible first | exact HB.out | apply below_alloc | apply pw_below_drewN | apply below_drew1 | refine below_set ?_ GE101.out | refine below_set ?_ GE102.out | refine below_set ?_ GE103.out) | exact HB.out))) : w.heap.size ≤ gb104)); have n6_ := Aside0.mk ((by rw [hg]; exact (below_size (by repeat (first | (with_reducible first | exact HB.out | apply below_alloc | apply pw_below_drewN | apply below_drew1 | refine below_set ?_ GE101.out | refine below_set ?_ GE102.out | refine below_set ?_ GE103.out) | exact HB.out))) : w.heap.size ≤ gb104)); have n7_ := Aside0.mk ((by rw [hg]; exact Nat.ne_of_lt (blk_lt (g := gb101) (o := .cells #[.int .i64 a0_0, .int .i64 a0_1, .int .i64 a0_2, .int .i64 a0_3, .int .i64 a0_4] 23 (0, 0)) (by (with_reducible repeat (first | refine blk_drewN ?_ _ | refine blk_drew ?_ | refine blk_alloc ?_ _)); exact BK101.out)) : gb101 ≠ gb104)); have n8_ := Aside0.mk ((by rw [hg]; exact Nat.ne_of_gt (blk_lt (g := gb101) (o := .cells #[.int .i64 a0_0, .int .i64 a0_1, .int .i64 a0_2, .int .i64 a0_3, .int .i64 a0_4] 23 (0, 0)) (by (with_reducible repeat (first | refine blk_drewN ?_ _ | refine blk_drew ?_ | refine blk_alloc ?_ _)); exact BK101.out)) : gb104 ≠ gb101)); have n9_ := Aside0.mk ((by rw [hg]; exact Nat.ne_of_lt (blk_lt (g := gb102) (o := .cells #[.int .i64 a1_0, .int .i64 a1_1, .int .i64 a1_2, .int .i64 a1_3, .int .i64 a1_4] 23 (0, 0)) (by (with_reducible repeat (first | refine blk_drewN ?_ _ | refine blk_drew ?_ | refine blk_alloc ?_ _)); exact BK102.out)) : gb102 ≠ gb104)); have n10_ := Aside0.mk ((by rw [hg]; exact Nat.ne_of_gt (blk_lt (g := gb102) (o := .cells #[.int .i64 a1_0, .int .i64 a1_1, .int .i64 a1_2, .int .i64 a1_3, .int .i64 a1_4] 23 (0, 0)) (by (with_reducible repeat (first | refine blk_drewN ?_ _ | refine blk_drew ?_ | refine blk_alloc ?_ _)); exact BK102.out)) : gb104 ≠ gb102)); have n11_ := Aside0.mk ((by rw [hg]; exact Nat.ne_of_lt (blk_lt (g := gb103) (o := .cells #[.int .i64 a2_0, .int .i64 a2_1, .bool a2_2, .bool a2_3, .bool a2_4, .bool a2_5, .bool a2_6, .bool a2_7, .bool a2_8, .bool a2_9, .bool a2_10, .bool a2_11, .bool a2_12, .bool a2_13, .bool a2_14, .bool a2_15, .bool a2_16, .bool a2_17, .int .i64 a2_18, .int .i64 a2_19, .int .i64 a2_20] 27 (0, 0)) (by (with_reducible repeat (first | refine blk_drewN ?_ _ | refine blk_drew ?_ | refine blk_alloc ?_ _)); exact BK103.out)) : gb103 ≠ gb104)); have n12_ := Aside0.mk ((by rw [hg]; exact Nat.ne_of_gt (blk_lt (g := gb103) (o := .cells #[.int .i64 a2_0, .int .i64 a2_1, .bool a2_2, .bool a2_3, .bool a2_4, .bool a2_5, .bool a2_6, .bool a2_7, .bool a2_8, .bool a2_9, .bool a2_10, .bool a2_11, .bool a2_12, .bool a2_13, .bool a2_14, .bool a2_15, .bool a2_16, .bool a2_17, .int .i64 a2_18, .int .i64 a2_19, .int .i64 a2_20] 27 (0, 0)) (by (with_reducible repeat (first | refine blk_drewN ?_ _ | refine blk_drew ?_ | refine blk_alloc ?_ _)); exact BK103.out)) : gb104 ≠ gb103)); clear BK101; clear BK102; clear BK103; clear HB; have BK101 := n0_; have BK102 := n1_; have BK103 := n2_; have HB := n3_; have BK104 := n4_; have GW104 := n5_; have GE104 := n6_; have NB101_104 := n7_; have NB104_101 := n8_; have NB102_104 := n9_; have NB104_102 := n10_; have NB103_104 := n11_; have NB104_103 := n12_; clear n0_ n1_ n2_ n3_ n4_ n5_ n6_ n7_ n8_ n9_ n10_ n11_ n12_; clear hb hbox hg; have hnb9 := NB103_101.out; have hnc9 := NB101_103.out; have hnb10 := NB103_102.out; have hnc10 := NB102_103.out; have hnb11 := NB103_104.out; have hnc11 := NB104_103.out; have hcz12_0 : w8.cell? ⟨gb103, 0, none⟩ = some (.int .i64 a2_0) := (blk_cell BK103.out 0).trans rfl; have hcz12_1 : w8.cell? ⟨gb103, 1, none⟩ = some (.int .i64 a2_1) := (blk_cell BK103.out 1).trans rfl; have hcz12_2 : w8.cell? ⟨gb103, 2, none⟩ = some (.bool a2_2) := (blk_cell BK103.out 2).trans rfl; have hcz12_3 : w8.cell? ⟨gb103, 3, none⟩ = some (.bool a2_3) := (blk_cell BK103.out 3).trans rfl; have hcz12_4 : w8.cell? ⟨gb103, 4, none⟩ = some (.bool a2_4) := (blk_cell BK103.out 4).trans rfl; have hcz12_5 : w8.cell? ⟨gb103, 5, none⟩ = some (.bool a2_5) := (blk_cell BK103.out 5).trans rfl; have hcz12_6 : w8.cell? ⟨gb103, 6, none⟩ = some (.bool a2_6) := (blk_cell BK103.out 6).trans rfl; have hcz12_7 : w8.cell? ⟨gb103, 7, none⟩ = some (.bool a2_7) := (blk_cell BK103.out 7).trans rfl; have hcz12_8 : w8.cell? ⟨gb103, 8, none⟩ = some (.bool a2_8) := (blk_cell BK103.out 8).trans rfl; have hcz12_9 : w8.cell? ⟨gb103, 9, none⟩ = some (.bool a2_9) := (blk_cell BK103.out 9).trans rfl; have hcz12_10 : w8.cell? ⟨gb103, 10, none⟩ = some (.bool a2_10) := (blk_cell BK103.out 10).trans rfl; have hcz12_11 : w8.cell? ⟨gb103, 11, none⟩ = some (.bool a2_11) := (blk_cell BK103.out 11).trans rfl; have hcz12_12 : w8.cell? ⟨gb103, 12, none⟩ = some (.bool a2_12) := (blk_cell BK103.out 12).trans rfl; have hcz12_13 : w8.cell? ⟨gb103, 13, none⟩ = some (.bool a2_13) := (blk_cell BK103.out 13).trans rfl; have hcz12_14 : w8.cell? ⟨gb103, 14, none⟩ = some (.bool a2_14) := (blk_cell BK103.out 14).trans rfl; have hcz12_15 : w8.cell? ⟨gb103, 15, none⟩ = some (.bool a2_15) := (blk_cell BK103.out 15).trans rfl; have hcz12_16 : w8.cell? ⟨gb103, 16, none⟩ = some (.bool a2_16) := (blk_cell BK103.out 16).trans rfl; have hcz12_17 : w8.cell? ⟨gb103, 17, none⟩ = some (.bool a2_17) := (blk_cell BK103.out 17).trans rfl; have hcz12_18 : w8.cell? ⟨gb103, 18, none⟩ = some (.int .i64 a2_18) := (blk_cell BK103.out 18).trans rfl; have hcz12_19 : w8.cell? ⟨gb103, 19, none⟩ = some (.int .i64 a2_19) := (blk_cell BK103.out 19).trans rfl; have hcz12_20 : w8.cell? ⟨gb103, 20, none⟩ = some (.int .i64 a2_20) := (blk_cell BK103.out 20).trans rfl; have hfz12_0 := blk_frozen BK103.out 0; have hfz12_1 := blk_frozen BK103.out 1; have hfz12_2 := blk_frozen BK103.out 2; have hfz12_3 := blk_frozen BK103.out 3; have hfz12_4 := blk_frozen BK103.out 4; have hfz12_5 := blk_frozen BK103.out 5; have hfz12_6 := blk_frozen BK103.out 6; have hfz12_7 := blk_frozen BK103.out 7; have hfz12_8 := blk_frozen BK103.out 8; have hfz12_9 := blk_frozen BK103.out 9; have hfz12_10 := blk_frozen BK103.out 10; have hfz12_11 := blk_frozen BK103.out 11; have hfz12_12 := blk_frozen BK103.out 12; have hfz12_13 := blk_frozen BK103.out 13; have hfz12_14 := blk_frozen BK103.out 14; have hfz12_15 := blk_frozen BK103.out 15; have hfz12_16 := blk_frozen BK103.out 16; have hfz12_17 := blk_frozen BK103.out 17; have hfz12_18 := blk_frozen BK103.out 18; have hfz12_19 := blk_frozen BK103.out 19; have hfz12_20 := blk_frozen BK103.out 20))
  (try simp only [Act.put, List.setIfInBounds_toArray, List.set_cons_zero, List.set_cons_succ])
  go_cut [] (fun wc => ∃ (kq : Nat) (x103000_3 : Int), Aside0 (meta_Take.j0 kq a0_0 a0_1 a0_2 a0_3 a0_4 x103000_3 a1_1 a1_2 a1_3 a1_4 a2_0 a2_1 a2_2 a2_3 a2_4 a2_5 a2_6 a2_7 a2_8 a2_9 a2_10 a2_11 a2_12 a2_13 a2_14 a2_15 a2_16 a2_17 a2_18 a2_19 a2_20 = some (r1, r2, r3, r4, r5)) ∧ Aside0 (kq ≤ k) ∧ Aside0 (wc.heap[gb101]? = some (.cells #[.int .i64 a0_0, .int .i64 a0_1, .int .i64 a0_2, .int .i64 a0_3, .int .i64 a0_4] 23 (0, 0))) ∧ Aside0 (wc.heap[gb102]? = some (.cells #[.int .i64 x103000_3, .int .i64 a1_1, .int .i64 a1_2, .int .i64 a1_3, .int .i64 a1_4] 23 (0, 0))) ∧ Aside0 (wc.heap[gb103]? = some (.cells #[.int .i64 a2_0, .int .i64 a2_1, .bool a2_2, .bool a2_3, .bool a2_4, .bool a2_5, .bool a2_6, .bool a2_7, .bool a2_8, .bool a2_9, .bool a2_10, .bool a2_11, .bool a2_12, .bool a2_13, .bool a2_14, .bool a2_15, .bool a2_16, .bool a2_17, .int .i64 a2_18, .int .i64 a2_19, .int .i64 a2_20] 27 (0, 0))) ∧ Aside0 (wc.heap[gb104]? = some (.cells #[.int .i64 0, .int .i64 0, .int .i64 0, .int .i64 0, .int .i64 0] 23 (0, 0))) ∧ Aside0 (Below w.heap.size w wc))
  case first =>
    have H := HC4.out
    clear HC4
    by_cases c13 : a2_7 = true
    · subst c13
      have H1 : (meta_Take.j0 k a0_0 a0_1 a0_2 a0_3 a0_4 a0_0 a1_1 a1_2 a1_3 a1_4 a2_0 a2_1 a2_2 a2_3 a2_4 a2_5 a2_6 true a2_8 a2_9 a2_10 a2_11 a2_12 a2_13 a2_14 a2_15 a2_16 a2_17 a2_18 a2_19 a2_20) = some (r1, r2, r3, r4, r5) := by rw [if_pos rfl] at H; exact H
      clear H
      have H := H1
      clear H1
      have H' := Aside0.mk H
      clear H
      have hnb14 := NB101_102.out
      have hnc14 := NB102_101.out
      have hnb15 := NB101_103.out
      have hnc15 := NB103_101.out
      have hnb16 := NB101_104.out
      have hnc16 := NB104_101.out
      have hcz17_0 : w8.cell? ⟨gb101, 0, none⟩ = some (.int .i64 a0_0) := (blk_cell BK101.out 0).trans rfl
      have hcz17_1 : w8.cell? ⟨gb101, 1, none⟩ = some (.int .i64 a0_1) := (blk_cell BK101.out 1).trans rfl
      have hcz17_2 : w8.cell? ⟨gb101, 2, none⟩ = some (.int .i64 a0_2) := (blk_cell BK101.out 2).trans rfl
      have hcz17_3 : w8.cell? ⟨gb101, 3, none⟩ = some (.int .i64 a0_3) := (blk_cell BK101.out 3).trans rfl
      have hcz17_4 : w8.cell? ⟨gb101, 4, none⟩ = some (.int .i64 a0_4) := (blk_cell BK101.out 4).trans rfl
      have hfz17_0 := blk_frozen BK101.out 0
      have hfz17_1 := blk_frozen BK101.out 1
      have hfz17_2 := blk_frozen BK101.out 2
      have hfz17_3 := blk_frozen BK101.out 3
      have hfz17_4 := blk_frozen BK101.out 4
      have hnb18 := NB102_103.out
      have hnc18 := NB103_102.out
      have hnb19 := NB102_104.out
      have hnc19 := NB104_102.out
      have hcz20_0 : w8.cell? ⟨gb102, 0, none⟩ = some (.int .i64 a1_0) := (blk_cell BK102.out 0).trans rfl
      have hcz20_1 : w8.cell? ⟨gb102, 1, none⟩ = some (.int .i64 a1_1) := (blk_cell BK102.out 1).trans rfl
      have hcz20_2 : w8.cell? ⟨gb102, 2, none⟩ = some (.int .i64 a1_2) := (blk_cell BK102.out 2).trans rfl
      have hcz20_3 : w8.cell? ⟨gb102, 3, none⟩ = some (.int .i64 a1_3) := (blk_cell BK102.out 3).trans rfl
      have hcz20_4 : w8.cell? ⟨gb102, 4, none⟩ = some (.int .i64 a1_4) := (blk_cell BK102.out 4).trans rfl
      have hfz20_0 := blk_frozen BK102.out 0
      have hfz20_1 := blk_frozen BK102.out 1
      have hfz20_2 := blk_frozen BK102.out 2
      have hfz20_3 := blk_frozen BK102.out 3
      have hfz20_4 := blk_frozen BK102.out 4
      go_wp2
      go_meet
      case rel => exact ⟨_, (a0_0), H', ⟨by first | omega | exact Nat.le_refl _⟩, ⟨by (with_reducible repeat (first | refine blk_drewN ?_ _ | refine blk_drew ?_ | refine blk_alloc ?_ _)); refine blk_far ?_ NB101_102.out _; (with_reducible repeat (first | refine blk_drewN ?_ _ | refine blk_drew ?_ | refine blk_alloc ?_ _)); exact BK101.out⟩, ⟨by (with_reducible repeat (first | refine blk_drewN ?_ _ | refine blk_drew ?_ | refine blk_alloc ?_ _)); refine blk_put (cs := #[.int .i64 a1_0, .int .i64 a1_1, .int .i64 a1_2, .int .i64 a1_3, .int .i64 a1_4]) ?_ 0 _ rfl; (with_reducible repeat (first | refine blk_drewN ?_ _ | refine blk_drew ?_ | refine blk_alloc ?_ _)); exact BK102.out⟩, ⟨by (with_reducible repeat (first | refine blk_drewN ?_ _ | refine blk_drew ?_ | refine blk_alloc ?_ _)); refine blk_far ?_ NB103_102.out _; (with_reducible repeat (first | refine blk_drewN ?_ _ | refine blk_drew ?_ | refine blk_alloc ?_ _)); exact BK103.out⟩, ⟨by (with_reducible repeat (first | refine blk_drewN ?_ _ | refine blk_drew ?_ | refine blk_alloc ?_ _)); refine blk_far ?_ NB104_102.out _; (with_reducible repeat (first | refine blk_drewN ?_ _ | refine blk_drew ?_ | refine blk_alloc ?_ _)); exact BK104.out⟩, ⟨by repeat (first | (with_reducible first | exact HB.out | apply below_alloc | apply pw_below_drewN | apply below_drew1 | refine below_set ?_ GE101.out | refine below_set ?_ GE102.out | refine below_set ?_ GE103.out | refine below_set ?_ GE104.out) | exact HB.out)⟩⟩
    · replace c13 := Bool.eq_false_iff.mpr c13
      subst c13
      have H1 : (meta_Take.j0 k a0_0 a0_1 a0_2 a0_3 a0_4 a1_0 a1_1 a1_2 a1_3 a1_4 a2_0 a2_1 a2_2 a2_3 a2_4 a2_5 a2_6 false a2_8 a2_9 a2_10 a2_11 a2_12 a2_13 a2_14 a2_15 a2_16 a2_17 a2_18 a2_19 a2_20) = some (r1, r2, r3, r4, r5) := by rw [if_neg (show ¬ (false = true) by decide)] at H; exact H
      clear H
      have H := H1
      clear H1
      have H' := Aside0.mk H
      clear H
      go_wp2
      go_meet
      case rel => exact ⟨_, (a1_0), H', ⟨by first | omega | exact Nat.le_refl _⟩, ⟨by (with_reducible repeat (first | refine blk_drewN ?_ _ | refine blk_drew ?_ | refine blk_alloc ?_ _)); exact BK101.out⟩, ⟨by (with_reducible repeat (first | refine blk_drewN ?_ _ | refine blk_drew ?_ | refine blk_alloc ?_ _)); exact BK102.out⟩, ⟨by (with_reducible repeat (first | refine blk_drewN ?_ _ | refine blk_drew ?_ | refine blk_alloc ?_ _)); exact BK103.out⟩, ⟨by (with_reducible repeat (first | refine blk_drewN ?_ _ | refine blk_drew ?_ | refine blk_alloc ?_ _)); exact BK104.out⟩, ⟨by repeat (first | (with_reducible first | exact HB.out | apply below_alloc | apply pw_below_drewN | apply below_drew1 | refine below_set ?_ GE101.out | refine below_set ?_ GE102.out | refine below_set ?_ GE103.out | refine below_set ?_ GE104.out) | exact HB.out)⟩⟩
  case rest =>
    clear HC4
    try clear c1
    try clear c2
    try clear p2
    try clear c9
    try clear c10
    try clear c11
    try clear c13
    try clear c14
    try clear c15
    try clear c16
    try clear c18
    try clear c19
    try clear c20
    try clear hcz12_0
    try clear hcz12_1
    try clear hcz12_10
    try clear hcz12_11
    try clear hcz12_12
    try clear hcz12_13
    try clear hcz12_14
    try clear hcz12_15
    try clear hcz12_16
    try clear hcz12_17
    try clear hcz12_18
    try clear hcz12_19
    try clear hcz12_2
    try clear hcz12_20
    try clear hcz12_3
    try clear hcz12_4
    try clear hcz12_5
    try clear hcz12_6
    try clear hcz12_7
    try clear hcz12_8
    try clear hcz12_9
    try clear hcz17_0
    try clear hcz17_1
    try clear hcz17_2
    try clear hcz17_3
    try clear hcz17_4
    try clear hcz20_0
    try clear hcz20_1
    try clear hcz20_2
    try clear hcz20_3
    try clear hcz20_4
    try clear hfz12_0
    try clear hfz12_1
    try clear hfz12_10
    try clear hfz12_11
    try clear hfz12_12
    try clear hfz12_13
    try clear hfz12_14
    try clear hfz12_15
    try clear hfz12_16
    try clear hfz12_17
    try clear hfz12_18
    try clear hfz12_19
    try clear hfz12_2
    try clear hfz12_20
    try clear hfz12_3
    try clear hfz12_4
    try clear hfz12_5
    try clear hfz12_6
    try clear hfz12_7
    try clear hfz12_8
    try clear hfz12_9
    try clear hfz17_0
    try clear hfz17_1
    try clear hfz17_2
    try clear hfz17_3
    try clear hfz17_4
    try clear hfz20_0
    try clear hfz20_1
    try clear hfz20_2
    try clear hfz20_3
    try clear hfz20_4
    obtain ⟨kq, x103000_3, HA, HJ3, BK101, BK102, BK103, BK104, HB⟩ := hcut
    cases kq with
    | zero => exact absurd HA.out (by simp [meta_Take.j0])
    | succ kj3 =>
      have H := HA.out
      clear HA
      simp only [meta_Take.j0] at H
      by_cases c21 : a2_8 = true
      · subst c21
        have H1 : (if a2_9 = true then (some (x103000_3, a0_1, a0_2, a0_3, a0_4)) else (some (x103000_3, a0_1, a0_2, a1_3, a1_4))) = some (r1, r2, r3, r4, r5) := by rw [if_pos rfl] at H; exact H
        clear H
        have H := H1
        clear H1
        by_cases c22 : a2_9 = true
        · subst c22
          have H1 : (some (x103000_3, a0_1, a0_2, a0_3, a0_4)) = some (r1, r2, r3, r4, r5) := by rw [if_pos rfl] at H; exact H
          clear H
          have H := H1
          clear H1
          simp only [Option.some.injEq, Prod.mk.injEq] at H
          obtain ⟨rfl, rfl, rfl, rfl, rfl⟩ := H
          have hnb23 := NB103_101.out
          have hnc23 := NB101_103.out
          have hnb24 := NB103_102.out
          have hnc24 := NB102_103.out
          have hnb25 := NB103_104.out
          have hnc25 := NB104_103.out
          have hcz26_0 : wc.cell? ⟨gb103, 0, none⟩ = some (.int .i64 a2_0) := (blk_cell BK103.out 0).trans rfl
          have hcz26_1 : wc.cell? ⟨gb103, 1, none⟩ = some (.int .i64 a2_1) := (blk_cell BK103.out 1).trans rfl
          have hcz26_2 : wc.cell? ⟨gb103, 2, none⟩ = some (.bool a2_2) := (blk_cell BK103.out 2).trans rfl
          have hcz26_3 : wc.cell? ⟨gb103, 3, none⟩ = some (.bool a2_3) := (blk_cell BK103.out 3).trans rfl
          have hcz26_4 : wc.cell? ⟨gb103, 4, none⟩ = some (.bool a2_4) := (blk_cell BK103.out 4).trans rfl
          have hcz26_5 : wc.cell? ⟨gb103, 5, none⟩ = some (.bool a2_5) := (blk_cell BK103.out 5).trans rfl
          have hcz26_6 : wc.cell? ⟨gb103, 6, none⟩ = some (.bool a2_6) := (blk_cell BK103.out 6).trans rfl
          have hcz26_7 : wc.cell? ⟨gb103, 7, none⟩ = some (.bool a2_7) := (blk_cell BK103.out 7).trans rfl
          have hcz26_8 : wc.cell? ⟨gb103, 8, none⟩ = some (.bool true) := (blk_cell BK103.out 8).trans rfl
          have hcz26_9 : wc.cell? ⟨gb103, 9, none⟩ = some (.bool true) := (blk_cell BK103.out 9).trans rfl
          have hcz26_10 : wc.cell? ⟨gb103, 10, none⟩ = some (.bool a2_10) := (blk_cell BK103.out 10).trans rfl
          have hcz26_11 : wc.cell? ⟨gb103, 11, none⟩ = some (.bool a2_11) := (blk_cell BK103.out 11).trans rfl
          have hcz26_12 : wc.cell? ⟨gb103, 12, none⟩ = some (.bool a2_12) := (blk_cell BK103.out 12).trans rfl
          have hcz26_13 : wc.cell? ⟨gb103, 13, none⟩ = some (.bool a2_13) := (blk_cell BK103.out 13).trans rfl
          have hcz26_14 : wc.cell? ⟨gb103, 14, none⟩ = some (.bool a2_14) := (blk_cell BK103.out 14).trans rfl
          have hcz26_15 : wc.cell? ⟨gb103, 15, none⟩ = some (.bool a2_15) := (blk_cell BK103.out 15).trans rfl
          have hcz26_16 : wc.cell? ⟨gb103, 16, none⟩ = some (.bool a2_16) := (blk_cell BK103.out 16).trans rfl
          have hcz26_17 : wc.cell? ⟨gb103, 17, none⟩ = some (.bool a2_17) := (blk_cell BK103.out 17).trans rfl
          have hcz26_18 : wc.cell? ⟨gb103, 18, none⟩ = some (.int .i64 a2_18) := (blk_cell BK103.out 18).trans rfl
          have hcz26_19 : wc.cell? ⟨gb103, 19, none⟩ = some (.int .i64 a2_19) := (blk_cell BK103.out 19).trans rfl
          have hcz26_20 : wc.cell? ⟨gb103, 20, none⟩ = some (.int .i64 a2_20) := (blk_cell BK103.out 20).trans rfl
          have hfz26_0 := blk_frozen BK103.out 0
          have hfz26_1 := blk_frozen BK103.out 1
          have hfz26_2 := blk_frozen BK103.out 2
          have hfz26_3 := blk_frozen BK103.out 3
          have hfz26_4 := blk_frozen BK103.out 4
          have hfz26_5 := blk_frozen BK103.out 5
          have hfz26_6 := blk_frozen BK103.out 6
          have hfz26_7 := blk_frozen BK103.out 7
          have hfz26_8 := blk_frozen BK103.out 8
          have hfz26_9 := blk_frozen BK103.out 9
          have hfz26_10 := blk_frozen BK103.out 10
          have hfz26_11 := blk_frozen BK103.out 11
          have hfz26_12 := blk_frozen BK103.out 12
          have hfz26_13 := blk_frozen BK103.out 13
          have hfz26_14 := blk_frozen BK103.out 14
          have hfz26_15 := blk_frozen BK103.out 15
          have hfz26_16 := blk_frozen BK103.out 16
          have hfz26_17 := blk_frozen BK103.out 17
          have hfz26_18 := blk_frozen BK103.out 18
          have hfz26_19 := blk_frozen BK103.out 19
          have hfz26_20 := blk_frozen BK103.out 20
          try go_wp2
          have n0_ := Aside0.mk (blk_drew BK101.out)
          have n1_ := Aside0.mk (blk_drew BK102.out)
          have n2_ := Aside0.mk (blk_drew BK103.out)
          have n3_ := Aside0.mk (blk_drew BK104.out)
          have n4_ := Aside0.mk (below_drew1 HB.out)
          clear BK101
          clear BK102
          clear BK103
          clear BK104
          clear HB
          have BK101 := n0_
          have BK102 := n1_
          have BK103 := n2_
          have BK104 := n3_
          have HB := n4_
          clear n0_ n1_ n2_ n3_ n4_
          refine start_ (n := 8) (S := fun w' => w'.cell? ⟨gb101, 0, none⟩ = some (.int .i64 a0_0) ∧ w'.cell? ⟨gb101, 1, none⟩ = some (.int .i64 a0_1) ∧ w'.cell? ⟨gb101, 2, none⟩ = some (.int .i64 a0_2) ∧ w'.cell? ⟨gb101, 3, none⟩ = some (.int .i64 a0_3) ∧ w'.cell? ⟨gb101, 4, none⟩ = some (.int .i64 a0_4)) (ds := []) #[false, false, false, false, false, false, false, false] (by kernel_rfl) rfl rfl ⟨(blk_cell BK101.out 0).trans rfl, (blk_cell BK101.out 1).trans rfl, (blk_cell BK101.out 2).trans rfl, (blk_cell BK101.out 3).trans rfl, (blk_cell BK101.out 4).trans rfl⟩ (fun hHeld => ?_); refine with_tabW meta_Take.tab4 meta_Take.bits4 (fun HT_ HW_ => ?_)
          generalize wc.drew = w27 at BK101 BK102 BK103 BK104 HB hHeld ⊢
          refine pure_ (i := 0) (N := some 14) (v := ?_) (a' := ?_) #[true, false, false, false, false, false, false, false] rfl rfl (any_of HT_.out (by kernel_rfl)) (fun _ _ _ h => h) (Or.inl ⟨by rfl, ?_⟩) ?_ ?_
          rotate_left
          · intro w'
            go_simp
            with_reducible rfl
          rotate_left
          · simp only [Act.put, List.setIfInBounds_toArray, List.set_cons_zero, List.set_cons_succ, i64_w, i32_w]
            rfl
          refine pure_ (i := 2) (N := some 16) (v := ?_) (a' := ?_) #[true, false, true, false, false, false, false, false] rfl rfl (any_of HT_.out (by kernel_rfl)) (fun _ _ _ h => h) (Or.inl ⟨by rfl, ?_⟩) ?_ ?_
          rotate_left
          · intro w'
            go_simp
            with_reducible rfl
          rotate_left
          · simp only [Act.put, List.setIfInBounds_toArray, List.set_cons_zero, List.set_cons_succ, i64_w, i32_w]
            rfl
          refine take_ (i := 1) (N := some 15) (v := ?_) (a' := ?_) #[true, true, true, false, false, false, false, false] rfl rfl (take_ofW HT_.out HW_.out (by kernel_rfl)) (fun _ _ _ h => h) (Or.inl ⟨by rfl, ?_⟩) hHeld ?_ ?_
          rotate_left
          · rintro w' ⟨s0, s1, s2, s3, s4⟩
            go_simp
            with_reducible rfl
          rotate_left
          · simp only [Act.put, List.setIfInBounds_toArray, List.set_cons_zero, List.set_cons_succ, i64_w, i32_w]
            rfl
          refine pure_ (i := 4) (N := some 18) (v := ?_) (a' := ?_) #[true, true, true, false, true, false, false, false] rfl rfl (any_of HT_.out (by kernel_rfl)) (fun _ _ _ h => h) (Or.inl ⟨by rfl, ?_⟩) ?_ ?_
          rotate_left
          · intro w'
            go_simp
            with_reducible rfl
          rotate_left
          · simp only [Act.put, List.setIfInBounds_toArray, List.set_cons_zero, List.set_cons_succ, i64_w, i32_w]
            rfl
          refine take_ (i := 3) (N := some 17) (v := ?_) (a' := ?_) #[true, true, true, true, true, false, false, false] rfl rfl (take_ofW HT_.out HW_.out (by kernel_rfl)) (fun _ _ _ h => h) (Or.inl ⟨by rfl, ?_⟩) hHeld ?_ ?_
          rotate_left
          · rintro w' ⟨s0, s1, s2, s3, s4⟩
            go_simp
            with_reducible rfl
          rotate_left
          · simp only [Act.put, List.setIfInBounds_toArray, List.set_cons_zero, List.set_cons_succ, i64_w, i32_w]
            rfl
          refine one_ (i := 5) (N := none) #[true, true, true, true, true, true, false, false] rfl rfl (one_of HT_.out (by kernel_rfl)) (by decide) (fun K hK => ?_)
          have hs28 : w27.cell? ⟨gb102, 1, none⟩ = some (.int .i64 a1_1) := (blk_cell BK102.out 1).trans rfl
          have hfs28 := blk_frozen BK102.out 1
          have hns28_0 := NB101_102.out
          have hns28_2 := NB103_102.out
          have hns28_3 := NB104_102.out
          have hms28_0 := NB102_101.out
          have hms28_2 := NB102_103.out
          have hms28_3 := NB102_104.out
          refine skip_ (w1 := ?_) (by rfl) rfl ?_ ?_
          rotate_left
          · go_simp
            rfl
          refine hK.out _ _ ⟨((cell_far (p := ⟨gb102, _, none⟩) NB101_102.out _).trans (hHeld.1)), ((cell_far (p := ⟨gb102, _, none⟩) NB101_102.out _).trans (hHeld.2.1)), ((cell_far (p := ⟨gb102, _, none⟩) NB101_102.out _).trans (hHeld.2.2.1)), ((cell_far (p := ⟨gb102, _, none⟩) NB101_102.out _).trans (hHeld.2.2.2.1)), ((cell_far (p := ⟨gb102, _, none⟩) NB101_102.out _).trans (hHeld.2.2.2.2))⟩ (fun hHeld => ?_)
          clear hK K
          refine pure_ (i := 6) (N := some 19) (v := ?_) (a' := ?_) #[true, true, true, true, true, true, true, false] rfl rfl (any_of HT_.out (by kernel_rfl)) (fun _ _ _ h => h) (Or.inl ⟨by rfl, ?_⟩) ?_ ?_
          rotate_left
          · intro w'
            go_simp
            with_reducible rfl
          rotate_left
          · simp only [Act.put, List.setIfInBounds_toArray, List.set_cons_zero, List.set_cons_succ, i64_w, i32_w]
            rfl
          refine one_ (i := 7) (N := none) #[true, true, true, true, true, true, true, true] rfl rfl (one_of HT_.out (by kernel_rfl)) (by decide) (fun K hK => ?_)
          have hs29 : w27.cell? ⟨gb102, 2, none⟩ = some (.int .i64 a1_2) := (blk_cell BK102.out 2).trans rfl
          have hfs29 := blk_frozen BK102.out 2
          have hns29_0 := NB101_102.out
          have hns29_2 := NB103_102.out
          have hns29_3 := NB104_102.out
          have hms29_0 := NB102_101.out
          have hms29_2 := NB102_103.out
          have hms29_3 := NB102_104.out
          refine skip_ (w1 := ?_) (by rfl) rfl ?_ ?_
          rotate_left
          · go_simp
            rfl
          refine hK.out _ _ ⟨((cell_far (p := ⟨gb102, _, none⟩) NB101_102.out _).trans (hHeld.1)), ((cell_far (p := ⟨gb102, _, none⟩) NB101_102.out _).trans (hHeld.2.1)), ((cell_far (p := ⟨gb102, _, none⟩) NB101_102.out _).trans (hHeld.2.2.1)), ((cell_far (p := ⟨gb102, _, none⟩) NB101_102.out _).trans (hHeld.2.2.2.1)), ((cell_far (p := ⟨gb102, _, none⟩) NB101_102.out _).trans (hHeld.2.2.2.2))⟩ (fun hHeld => ?_)
          clear hK K
          refine done_ (done_of HT_.out (by kernel_rfl)) ?_
          have hcz30_0 : w27.cell? ⟨gb103, 0, none⟩ = some (.int .i64 a2_0) := (blk_cell BK103.out 0).trans rfl
          have hcz30_1 : w27.cell? ⟨gb103, 1, none⟩ = some (.int .i64 a2_1) := (blk_cell BK103.out 1).trans rfl
          have hcz30_2 : w27.cell? ⟨gb103, 2, none⟩ = some (.bool a2_2) := (blk_cell BK103.out 2).trans rfl
          have hcz30_3 : w27.cell? ⟨gb103, 3, none⟩ = some (.bool a2_3) := (blk_cell BK103.out 3).trans rfl
          have hcz30_4 : w27.cell? ⟨gb103, 4, none⟩ = some (.bool a2_4) := (blk_cell BK103.out 4).trans rfl
          have hcz30_5 : w27.cell? ⟨gb103, 5, none⟩ = some (.bool a2_5) := (blk_cell BK103.out 5).trans rfl
          have hcz30_6 : w27.cell? ⟨gb103, 6, none⟩ = some (.bool a2_6) := (blk_cell BK103.out 6).trans rfl
          have hcz30_7 : w27.cell? ⟨gb103, 7, none⟩ = some (.bool a2_7) := (blk_cell BK103.out 7).trans rfl
          have hcz30_8 : w27.cell? ⟨gb103, 8, none⟩ = some (.bool true) := (blk_cell BK103.out 8).trans rfl
          have hcz30_9 : w27.cell? ⟨gb103, 9, none⟩ = some (.bool true) := (blk_cell BK103.out 9).trans rfl
          have hcz30_10 : w27.cell? ⟨gb103, 10, none⟩ = some (.bool a2_10) := (blk_cell BK103.out 10).trans rfl
          have hcz30_11 : w27.cell? ⟨gb103, 11, none⟩ = some (.bool a2_11) := (blk_cell BK103.out 11).trans rfl
          have hcz30_12 : w27.cell? ⟨gb103, 12, none⟩ = some (.bool a2_12) := (blk_cell BK103.out 12).trans rfl
          have hcz30_13 : w27.cell? ⟨gb103, 13, none⟩ = some (.bool a2_13) := (blk_cell BK103.out 13).trans rfl
          have hcz30_14 : w27.cell? ⟨gb103, 14, none⟩ = some (.bool a2_14) := (blk_cell BK103.out 14).trans rfl
          have hcz30_15 : w27.cell? ⟨gb103, 15, none⟩ = some (.bool a2_15) := (blk_cell BK103.out 15).trans rfl
          have hcz30_16 : w27.cell? ⟨gb103, 16, none⟩ = some (.bool a2_16) := (blk_cell BK103.out 16).trans rfl
          have hcz30_17 : w27.cell? ⟨gb103, 17, none⟩ = some (.bool a2_17) := (blk_cell BK103.out 17).trans rfl
          have hcz30_18 : w27.cell? ⟨gb103, 18, none⟩ = some (.int .i64 a2_18) := (blk_cell BK103.out 18).trans rfl
          have hcz30_19 : w27.cell? ⟨gb103, 19, none⟩ = some (.int .i64 a2_19) := (blk_cell BK103.out 19).trans rfl
          have hcz30_20 : w27.cell? ⟨gb103, 20, none⟩ = some (.int .i64 a2_20) := (blk_cell BK103.out 20).trans rfl
          have hfz30_0 := blk_frozen BK103.out 0
          have hfz30_1 := blk_frozen BK103.out 1
          have hfz30_2 := blk_frozen BK103.out 2
          have hfz30_3 := blk_frozen BK103.out 3
          have hfz30_4 := blk_frozen BK103.out 4
          have hfz30_5 := blk_frozen BK103.out 5
          have hfz30_6 := blk_frozen BK103.out 6
          have hfz30_7 := blk_frozen BK103.out 7
          have hfz30_8 := blk_frozen BK103.out 8
          have hfz30_9 := blk_frozen BK103.out 9
          have hfz30_10 := blk_frozen BK103.out 10
          have hfz30_11 := blk_frozen BK103.out 11
          have hfz30_12 := blk_frozen BK103.out 12
          have hfz30_13 := blk_frozen BK103.out 13
          have hfz30_14 := blk_frozen BK103.out 14
          have hfz30_15 := blk_frozen BK103.out 15
          have hfz30_16 := blk_frozen BK103.out 16
          have hfz30_17 := blk_frozen BK103.out 17
          have hfz30_18 := blk_frozen BK103.out 18
          have hfz30_19 := blk_frozen BK103.out 19
          have hfz30_20 := blk_frozen BK103.out 20
          try go_wp2
          have n0_ : Aside0 (((w27.setCell ⟨gb102, 1, none⟩ (.int .i64 a0_1)).setCell ⟨gb102, 2, none⟩ (.int .i64 a0_2)).heap[gb101]? = some (.cells #[.int .i64 a0_0, .int .i64 a0_1, .int .i64 a0_2, .int .i64 a0_3, .int .i64 a0_4] 23 (0, 0))) := ⟨by (with_reducible repeat (first | refine blk_drewN ?_ _ | refine blk_drew ?_ | refine blk_alloc ?_ _)); refine blk_far ?_ NB101_102.out _; (with_reducible repeat (first | refine blk_drewN ?_ _ | refine blk_drew ?_ | refine blk_alloc ?_ _)); refine blk_far ?_ NB101_102.out _; (with_reducible repeat (first | refine blk_drewN ?_ _ | refine blk_drew ?_ | refine blk_alloc ?_ _)); exact BK101.out⟩
          have n1_ : Aside0 (((w27.setCell ⟨gb102, 1, none⟩ (.int .i64 a0_1)).setCell ⟨gb102, 2, none⟩ (.int .i64 a0_2)).heap[gb102]? = some (.cells #[.int .i64 x103000_3, .int .i64 a0_1, .int .i64 a0_2, .int .i64 a1_3, .int .i64 a1_4] 23 (0, 0))) := ⟨by (with_reducible repeat (first | refine blk_drewN ?_ _ | refine blk_drew ?_ | refine blk_alloc ?_ _)); refine blk_put (cs := #[.int .i64 x103000_3, .int .i64 a0_1, .int .i64 a1_2, .int .i64 a1_3, .int .i64 a1_4]) ?_ 2 _ rfl; (with_reducible repeat (first | refine blk_drewN ?_ _ | refine blk_drew ?_ | refine blk_alloc ?_ _)); refine blk_put (cs := #[.int .i64 x103000_3, .int .i64 a1_1, .int .i64 a1_2, .int .i64 a1_3, .int .i64 a1_4]) ?_ 1 _ rfl; (with_reducible repeat (first | refine blk_drewN ?_ _ | refine blk_drew ?_ | refine blk_alloc ?_ _)); exact BK102.out⟩
          have n2_ : Aside0 (((w27.setCell ⟨gb102, 1, none⟩ (.int .i64 a0_1)).setCell ⟨gb102, 2, none⟩ (.int .i64 a0_2)).heap[gb103]? = some (.cells #[.int .i64 a2_0, .int .i64 a2_1, .bool a2_2, .bool a2_3, .bool a2_4, .bool a2_5, .bool a2_6, .bool a2_7, .bool true, .bool true, .bool a2_10, .bool a2_11, .bool a2_12, .bool a2_13, .bool a2_14, .bool a2_15, .bool a2_16, .bool a2_17, .int .i64 a2_18, .int .i64 a2_19, .int .i64 a2_20] 27 (0, 0))) := ⟨by (with_reducible repeat (first | refine blk_drewN ?_ _ | refine blk_drew ?_ | refine blk_alloc ?_ _)); refine blk_far ?_ NB103_102.out _; (with_reducible repeat (first | refine blk_drewN ?_ _ | refine blk_drew ?_ | refine blk_alloc ?_ _)); refine blk_far ?_ NB103_102.out _; (with_reducible repeat (first | refine blk_drewN ?_ _ | refine blk_drew ?_ | refine blk_alloc ?_ _)); exact BK103.out⟩
          have n3_ : Aside0 (((w27.setCell ⟨gb102, 1, none⟩ (.int .i64 a0_1)).setCell ⟨gb102, 2, none⟩ (.int .i64 a0_2)).heap[gb104]? = some (.cells #[.int .i64 0, .int .i64 0, .int .i64 0, .int .i64 0, .int .i64 0] 23 (0, 0))) := ⟨by (with_reducible repeat (first | refine blk_drewN ?_ _ | refine blk_drew ?_ | refine blk_alloc ?_ _)); refine blk_far ?_ NB104_102.out _; (with_reducible repeat (first | refine blk_drewN ?_ _ | refine blk_drew ?_ | refine blk_alloc ?_ _)); refine blk_far ?_ NB104_102.out _; (with_reducible repeat (first | refine blk_drewN ?_ _ | refine blk_drew ?_ | refine blk_alloc ?_ _)); exact BK104.out⟩
          have n4_ : Aside0 (Below w.heap.size w ((w27.setCell ⟨gb102, 1, none⟩ (.int .i64 a0_1)).setCell ⟨gb102, 2, none⟩ (.int .i64 a0_2))) := ⟨by repeat (first | (with_reducible first | exact HB.out | apply below_alloc | apply pw_below_drewN | apply below_drew1 | refine below_set ?_ GE101.out | refine below_set ?_ GE102.out | refine below_set ?_ GE103.out | refine below_set ?_ GE104.out) | exact HB.out)⟩
          (try clear BK101)
          (try clear BK102)
          (try clear BK103)
          (try clear BK104)
          (try clear HB)
          generalize ((w27.setCell ⟨gb102, 1, none⟩ (.int .i64 a0_1)).setCell ⟨gb102, 2, none⟩ (.int .i64 a0_2)) = w31 at n0_ n1_ n2_ n3_ n4_ ⊢
          have BK101 := n0_
          have BK102 := n1_
          have BK103 := n2_
          have BK104 := n3_
          have HB := n4_
          clear n0_ n1_ n2_ n3_ n4_
          have n0_ := Aside0.mk (blk_drew BK101.out)
          have n1_ := Aside0.mk (blk_drew BK102.out)
          have n2_ := Aside0.mk (blk_drew BK103.out)
          have n3_ := Aside0.mk (blk_drew BK104.out)
          have n4_ := Aside0.mk (below_drew1 HB.out)
          clear BK101
          clear BK102
          clear BK103
          clear BK104
          clear HB
          have BK101 := n0_
          have BK102 := n1_
          have BK103 := n2_
          have BK104 := n3_
          have HB := n4_
          clear n0_ n1_ n2_ n3_ n4_
          refine start_ (n := 8) (S := fun w' => w'.cell? ⟨gb101, 0, none⟩ = some (.int .i64 a0_0) ∧ w'.cell? ⟨gb101, 1, none⟩ = some (.int .i64 a0_1) ∧ w'.cell? ⟨gb101, 2, none⟩ = some (.int .i64 a0_2) ∧ w'.cell? ⟨gb101, 3, none⟩ = some (.int .i64 a0_3) ∧ w'.cell? ⟨gb101, 4, none⟩ = some (.int .i64 a0_4)) (ds := []) #[false, false, false, false, false, false, false, false] (by kernel_rfl) rfl rfl ⟨(blk_cell BK101.out 0).trans rfl, (blk_cell BK101.out 1).trans rfl, (blk_cell BK101.out 2).trans rfl, (blk_cell BK101.out 3).trans rfl, (blk_cell BK101.out 4).trans rfl⟩ (fun hHeld => ?_); refine with_tabW meta_Take.tab6 meta_Take.bits6 (fun HT_ HW_ => ?_)
          generalize w31.drew = w32 at BK101 BK102 BK103 BK104 HB hHeld ⊢
          refine pure_ (i := 0) (N := some 22) (v := ?_) (a' := ?_) #[true, false, false, false, false, false, false, false] rfl rfl (any_of HT_.out (by kernel_rfl)) (fun _ _ _ h => h) (Or.inl ⟨by rfl, ?_⟩) ?_ ?_
          rotate_left
          · intro w'
            go_simp
            with_reducible rfl
          rotate_left
          · simp only [Act.put, List.setIfInBounds_toArray, List.set_cons_zero, List.set_cons_succ, i64_w, i32_w]
            rfl
          refine pure_ (i := 2) (N := some 24) (v := ?_) (a' := ?_) #[true, false, true, false, false, false, false, false] rfl rfl (any_of HT_.out (by kernel_rfl)) (fun _ _ _ h => h) (Or.inl ⟨by rfl, ?_⟩) ?_ ?_
          rotate_left
          · intro w'
            go_simp
            with_reducible rfl
          rotate_left
          · simp only [Act.put, List.setIfInBounds_toArray, List.set_cons_zero, List.set_cons_succ, i64_w, i32_w]
            rfl
          refine take_ (i := 1) (N := some 23) (v := ?_) (a' := ?_) #[true, true, true, false, false, false, false, false] rfl rfl (take_ofW HT_.out HW_.out (by kernel_rfl)) (fun _ _ _ h => h) (Or.inl ⟨by rfl, ?_⟩) hHeld ?_ ?_
          rotate_left
          · rintro w' ⟨s0, s1, s2, s3, s4⟩
            go_simp
            with_reducible rfl
          rotate_left
          · simp only [Act.put, List.setIfInBounds_toArray, List.set_cons_zero, List.set_cons_succ, i64_w, i32_w]
            rfl
          refine pure_ (i := 4) (N := some 26) (v := ?_) (a' := ?_) #[true, true, true, false, true, false, false, false] rfl rfl (any_of HT_.out (by kernel_rfl)) (fun _ _ _ h => h) (Or.inl ⟨by rfl, ?_⟩) ?_ ?_
          rotate_left
          · intro w'
            go_simp
            with_reducible rfl
          rotate_left
          · simp only [Act.put, List.setIfInBounds_toArray, List.set_cons_zero, List.set_cons_succ, i64_w, i32_w]
            rfl
          refine take_ (i := 3) (N := some 25) (v := ?_) (a' := ?_) #[true, true, true, true, true, false, false, false] rfl rfl (take_ofW HT_.out HW_.out (by kernel_rfl)) (fun _ _ _ h => h) (Or.inl ⟨by rfl, ?_⟩) hHeld ?_ ?_
          rotate_left
          · rintro w' ⟨s0, s1, s2, s3, s4⟩
            go_simp
            with_reducible rfl
          rotate_left
          · simp only [Act.put, List.setIfInBounds_toArray, List.set_cons_zero, List.set_cons_succ, i64_w, i32_w]
            rfl
          refine one_ (i := 5) (N := none) #[true, true, true, true, true, true, false, false] rfl rfl (one_of HT_.out (by kernel_rfl)) (by decide) (fun K hK => ?_)
          have hs33 : w32.cell? ⟨gb102, 3, none⟩ = some (.int .i64 a1_3) := (blk_cell BK102.out 3).trans rfl
          have hfs33 := blk_frozen BK102.out 3
          have hns33_0 := NB101_102.out
          have hns33_2 := NB103_102.out
          have hns33_3 := NB104_102.out
          have hms33_0 := NB102_101.out
          have hms33_2 := NB102_103.out
          have hms33_3 := NB102_104.out
          refine skip_ (w1 := ?_) (by rfl) rfl ?_ ?_
          rotate_left
          · go_simp
            rfl
          refine hK.out _ _ ⟨((cell_far (p := ⟨gb102, _, none⟩) NB101_102.out _).trans (hHeld.1)), ((cell_far (p := ⟨gb102, _, none⟩) NB101_102.out _).trans (hHeld.2.1)), ((cell_far (p := ⟨gb102, _, none⟩) NB101_102.out _).trans (hHeld.2.2.1)), ((cell_far (p := ⟨gb102, _, none⟩) NB101_102.out _).trans (hHeld.2.2.2.1)), ((cell_far (p := ⟨gb102, _, none⟩) NB101_102.out _).trans (hHeld.2.2.2.2))⟩ (fun hHeld => ?_)
          clear hK K
          refine pure_ (i := 6) (N := some 27) (v := ?_) (a' := ?_) #[true, true, true, true, true, true, true, false] rfl rfl (any_of HT_.out (by kernel_rfl)) (fun _ _ _ h => h) (Or.inl ⟨by rfl, ?_⟩) ?_ ?_
          rotate_left
          · intro w'
            go_simp
            with_reducible rfl
          rotate_left
          · simp only [Act.put, List.setIfInBounds_toArray, List.set_cons_zero, List.set_cons_succ, i64_w, i32_w]
            rfl
          refine one_ (i := 7) (N := none) #[true, true, true, true, true, true, true, true] rfl rfl (one_of HT_.out (by kernel_rfl)) (by decide) (fun K hK => ?_)
          have hs34 : w32.cell? ⟨gb102, 4, none⟩ = some (.int .i64 a1_4) := (blk_cell BK102.out 4).trans rfl
          have hfs34 := blk_frozen BK102.out 4
          have hns34_0 := NB101_102.out
          have hns34_2 := NB103_102.out
          have hns34_3 := NB104_102.out
          have hms34_0 := NB102_101.out
          have hms34_2 := NB102_103.out
          have hms34_3 := NB102_104.out
          refine skip_ (w1 := ?_) (by rfl) rfl ?_ ?_
          rotate_left
          · go_simp
            rfl
          refine hK.out _ _ ⟨((cell_far (p := ⟨gb102, _, none⟩) NB101_102.out _).trans (hHeld.1)), ((cell_far (p := ⟨gb102, _, none⟩) NB101_102.out _).trans (hHeld.2.1)), ((cell_far (p := ⟨gb102, _, none⟩) NB101_102.out _).trans (hHeld.2.2.1)), ((cell_far (p := ⟨gb102, _, none⟩) NB101_102.out _).trans (hHeld.2.2.2.1)), ((cell_far (p := ⟨gb102, _, none⟩) NB101_102.out _).trans (hHeld.2.2.2.2))⟩ (fun hHeld => ?_)
          clear hK K
          refine done_ (done_of HT_.out (by kernel_rfl)) ?_
          have hnb35 := NB102_101.out
          have hnc35 := NB101_102.out
          have hnb36 := NB102_104.out
          have hnc36 := NB104_102.out
          have hcz37_0 : w32.cell? ⟨gb102, 0, none⟩ = some (.int .i64 x103000_3) := (blk_cell BK102.out 0).trans rfl
          have hcz37_1 : w32.cell? ⟨gb102, 1, none⟩ = some (.int .i64 a0_1) := (blk_cell BK102.out 1).trans rfl
          have hcz37_2 : w32.cell? ⟨gb102, 2, none⟩ = some (.int .i64 a0_2) := (blk_cell BK102.out 2).trans rfl
          have hcz37_3 : w32.cell? ⟨gb102, 3, none⟩ = some (.int .i64 a1_3) := (blk_cell BK102.out 3).trans rfl
          have hcz37_4 : w32.cell? ⟨gb102, 4, none⟩ = some (.int .i64 a1_4) := (blk_cell BK102.out 4).trans rfl
          have hfz37_0 := blk_frozen BK102.out 0
          have hfz37_1 := blk_frozen BK102.out 1
          have hfz37_2 := blk_frozen BK102.out 2
          have hfz37_3 := blk_frozen BK102.out 3
          have hfz37_4 := blk_frozen BK102.out 4
          have hnb38 := NB104_101.out
          have hnc38 := NB101_104.out
          have hcz39_0 : w32.cell? ⟨gb104, 0, none⟩ = some (.int .i64 0) := (blk_cell BK104.out 0).trans rfl
          have hcz39_1 : w32.cell? ⟨gb104, 1, none⟩ = some (.int .i64 0) := (blk_cell BK104.out 1).trans rfl
          have hcz39_2 : w32.cell? ⟨gb104, 2, none⟩ = some (.int .i64 0) := (blk_cell BK104.out 2).trans rfl
          have hcz39_3 : w32.cell? ⟨gb104, 3, none⟩ = some (.int .i64 0) := (blk_cell BK104.out 3).trans rfl
          have hcz39_4 : w32.cell? ⟨gb104, 4, none⟩ = some (.int .i64 0) := (blk_cell BK104.out 4).trans rfl
          have hfz39_0 := blk_frozen BK104.out 0
          have hfz39_1 := blk_frozen BK104.out 1
          have hfz39_2 := blk_frozen BK104.out 2
          have hfz39_3 := blk_frozen BK104.out 3
          have hfz39_4 := blk_frozen BK104.out 4
          try go_wp2
          refine bodyPost_ret (results_cell_row rfl _ _ gb104 23 #[.int .i64 x103000_3, .int .i64 a0_1, .int .i64 a0_2, .int .i64 a0_3, .int .i64 a0_4] (0, 0) _ rfl (by (with_reducible repeat (first | refine blk_drewN ?_ _ | refine blk_drew ?_ | refine blk_alloc ?_ _)); refine blk_put (cs := #[.int .i64 x103000_3, .int .i64 a0_1, .int .i64 a0_2, .int .i64 a0_3, .int .i64 0]) ?_ 4 _ rfl; (with_reducible repeat (first | refine blk_drewN ?_ _ | refine blk_drew ?_ | refine blk_alloc ?_ _)); refine blk_put (cs := #[.int .i64 x103000_3, .int .i64 a0_1, .int .i64 a0_2, .int .i64 0, .int .i64 0]) ?_ 3 _ rfl; (with_reducible repeat (first | refine blk_drewN ?_ _ | refine blk_drew ?_ | refine blk_alloc ?_ _)); refine blk_put (cs := #[.int .i64 x103000_3, .int .i64 a0_1, .int .i64 0, .int .i64 0, .int .i64 0]) ?_ 2 _ rfl; (with_reducible repeat (first | refine blk_drewN ?_ _ | refine blk_drew ?_ | refine blk_alloc ?_ _)); refine blk_put (cs := #[.int .i64 x103000_3, .int .i64 0, .int .i64 0, .int .i64 0, .int .i64 0]) ?_ 1 _ rfl; (with_reducible repeat (first | refine blk_drewN ?_ _ | refine blk_drew ?_ | refine blk_alloc ?_ _)); refine blk_put (cs := #[.int .i64 0, .int .i64 0, .int .i64 0, .int .i64 0, .int .i64 0]) ?_ 0 _ rfl; (with_reducible repeat (first | refine blk_drewN ?_ _ | refine blk_drew ?_ | refine blk_alloc ?_ _)); refine blk_far ?_ NB104_102.out _; (with_reducible repeat (first | refine blk_drewN ?_ _ | refine blk_drew ?_ | refine blk_alloc ?_ _)); refine blk_far ?_ NB104_102.out _; (with_reducible repeat (first | refine blk_drewN ?_ _ | refine blk_drew ?_ | refine blk_alloc ?_ _)); exact BK104.out) Try.underlying23 rfl (by kernel_rfl)) rfl ?_
          exact ⟨by first | rfl | (simp [errW_none, errW_some] <;> rfl) | (simp [*, errW_none, errW_some] <;> rfl), by repeat (first | (with_reducible first | exact HB.out | apply below_alloc | apply pw_below_drewN | apply below_drew1 | refine below_set ?_ GE101.out | refine below_set ?_ GE102.out | refine below_set ?_ GE103.out | refine below_set ?_ GE104.out) | exact HB.out)⟩
        · replace c22 := Bool.eq_false_iff.mpr c22
          subst c22
          have H1 : (some (x103000_3, a0_1, a0_2, a1_3, a1_4)) = some (r1, r2, r3, r4, r5) := by rw [if_neg (show ¬ (false = true) by decide)] at H; exact H
          clear H
          have H := H1
          clear H1
          simp only [Option.some.injEq, Prod.mk.injEq] at H
          obtain ⟨rfl, rfl, rfl, rfl, rfl⟩ := H
          have hnb40 := NB103_101.out
          have hnc40 := NB101_103.out
          have hnb41 := NB103_102.out
          have hnc41 := NB102_103.out
          have hnb42 := NB103_104.out
          have hnc42 := NB104_103.out
          have hcz43_0 : wc.cell? ⟨gb103, 0, none⟩ = some (.int .i64 a2_0) := (blk_cell BK103.out 0).trans rfl
          have hcz43_1 : wc.cell? ⟨gb103, 1, none⟩ = some (.int .i64 a2_1) := (blk_cell BK103.out 1).trans rfl
          have hcz43_2 : wc.cell? ⟨gb103, 2, none⟩ = some (.bool a2_2) := (blk_cell BK103.out 2).trans rfl
          have hcz43_3 : wc.cell? ⟨gb103, 3, none⟩ = some (.bool a2_3) := (blk_cell BK103.out 3).trans rfl
          have hcz43_4 : wc.cell? ⟨gb103, 4, none⟩ = some (.bool a2_4) := (blk_cell BK103.out 4).trans rfl
          have hcz43_5 : wc.cell? ⟨gb103, 5, none⟩ = some (.bool a2_5) := (blk_cell BK103.out 5).trans rfl
          have hcz43_6 : wc.cell? ⟨gb103, 6, none⟩ = some (.bool a2_6) := (blk_cell BK103.out 6).trans rfl
          have hcz43_7 : wc.cell? ⟨gb103, 7, none⟩ = some (.bool a2_7) := (blk_cell BK103.out 7).trans rfl
          have hcz43_8 : wc.cell? ⟨gb103, 8, none⟩ = some (.bool true) := (blk_cell BK103.out 8).trans rfl
          have hcz43_9 : wc.cell? ⟨gb103, 9, none⟩ = some (.bool false) := (blk_cell BK103.out 9).trans rfl
          have hcz43_10 : wc.cell? ⟨gb103, 10, none⟩ = some (.bool a2_10) := (blk_cell BK103.out 10).trans rfl
          have hcz43_11 : wc.cell? ⟨gb103, 11, none⟩ = some (.bool a2_11) := (blk_cell BK103.out 11).trans rfl
          have hcz43_12 : wc.cell? ⟨gb103, 12, none⟩ = some (.bool a2_12) := (blk_cell BK103.out 12).trans rfl
          have hcz43_13 : wc.cell? ⟨gb103, 13, none⟩ = some (.bool a2_13) := (blk_cell BK103.out 13).trans rfl
          have hcz43_14 : wc.cell? ⟨gb103, 14, none⟩ = some (.bool a2_14) := (blk_cell BK103.out 14).trans rfl
          have hcz43_15 : wc.cell? ⟨gb103, 15, none⟩ = some (.bool a2_15) := (blk_cell BK103.out 15).trans rfl
          have hcz43_16 : wc.cell? ⟨gb103, 16, none⟩ = some (.bool a2_16) := (blk_cell BK103.out 16).trans rfl
          have hcz43_17 : wc.cell? ⟨gb103, 17, none⟩ = some (.bool a2_17) := (blk_cell BK103.out 17).trans rfl
          have hcz43_18 : wc.cell? ⟨gb103, 18, none⟩ = some (.int .i64 a2_18) := (blk_cell BK103.out 18).trans rfl
          have hcz43_19 : wc.cell? ⟨gb103, 19, none⟩ = some (.int .i64 a2_19) := (blk_cell BK103.out 19).trans rfl
          have hcz43_20 : wc.cell? ⟨gb103, 20, none⟩ = some (.int .i64 a2_20) := (blk_cell BK103.out 20).trans rfl
          have hfz43_0 := blk_frozen BK103.out 0
          have hfz43_1 := blk_frozen BK103.out 1
          have hfz43_2 := blk_frozen BK103.out 2
          have hfz43_3 := blk_frozen BK103.out 3
          have hfz43_4 := blk_frozen BK103.out 4
          have hfz43_5 := blk_frozen BK103.out 5
          have hfz43_6 := blk_frozen BK103.out 6
          have hfz43_7 := blk_frozen BK103.out 7
          have hfz43_8 := blk_frozen BK103.out 8
          have hfz43_9 := blk_frozen BK103.out 9
          have hfz43_10 := blk_frozen BK103.out 10
          have hfz43_11 := blk_frozen BK103.out 11
          have hfz43_12 := blk_frozen BK103.out 12
          have hfz43_13 := blk_frozen BK103.out 13
          have hfz43_14 := blk_frozen BK103.out 14
          have hfz43_15 := blk_frozen BK103.out 15
          have hfz43_16 := blk_frozen BK103.out 16
          have hfz43_17 := blk_frozen BK103.out 17
          have hfz43_18 := blk_frozen BK103.out 18
          have hfz43_19 := blk_frozen BK103.out 19
          have hfz43_20 := blk_frozen BK103.out 20
          try go_wp2
          have n0_ := Aside0.mk (blk_drew BK101.out)
          have n1_ := Aside0.mk (blk_drew BK102.out)
          have n2_ := Aside0.mk (blk_drew BK103.out)
          have n3_ := Aside0.mk (blk_drew BK104.out)
          have n4_ := Aside0.mk (below_drew1 HB.out)
          clear BK101
          clear BK102
          clear BK103
          clear BK104
          clear HB
          have BK101 := n0_
          have BK102 := n1_
          have BK103 := n2_
          have BK104 := n3_
          have HB := n4_
          clear n0_ n1_ n2_ n3_ n4_
          refine start_ (n := 8) (S := fun w' => w'.cell? ⟨gb101, 0, none⟩ = some (.int .i64 a0_0) ∧ w'.cell? ⟨gb101, 1, none⟩ = some (.int .i64 a0_1) ∧ w'.cell? ⟨gb101, 2, none⟩ = some (.int .i64 a0_2) ∧ w'.cell? ⟨gb101, 3, none⟩ = some (.int .i64 a0_3) ∧ w'.cell? ⟨gb101, 4, none⟩ = some (.int .i64 a0_4)) (ds := []) #[false, false, false, false, false, false, false, false] (by kernel_rfl) rfl rfl ⟨(blk_cell BK101.out 0).trans rfl, (blk_cell BK101.out 1).trans rfl, (blk_cell BK101.out 2).trans rfl, (blk_cell BK101.out 3).trans rfl, (blk_cell BK101.out 4).trans rfl⟩ (fun hHeld => ?_); refine with_tabW meta_Take.tab4 meta_Take.bits4 (fun HT_ HW_ => ?_)
          generalize wc.drew = w44 at BK101 BK102 BK103 BK104 HB hHeld ⊢
          refine pure_ (i := 0) (N := some 14) (v := ?_) (a' := ?_) #[true, false, false, false, false, false, false, false] rfl rfl (any_of HT_.out (by kernel_rfl)) (fun _ _ _ h => h) (Or.inl ⟨by rfl, ?_⟩) ?_ ?_
          rotate_left
          · intro w'
            go_simp
            with_reducible rfl
          rotate_left
          · simp only [Act.put, List.setIfInBounds_toArray, List.set_cons_zero, List.set_cons_succ, i64_w, i32_w]
            rfl
          refine pure_ (i := 2) (N := some 16) (v := ?_) (a' := ?_) #[true, false, true, false, false, false, false, false] rfl rfl (any_of HT_.out (by kernel_rfl)) (fun _ _ _ h => h) (Or.inl ⟨by rfl, ?_⟩) ?_ ?_
          rotate_left
          · intro w'
            go_simp
            with_reducible rfl
          rotate_left
          · simp only [Act.put, List.setIfInBounds_toArray, List.set_cons_zero, List.set_cons_succ, i64_w, i32_w]
            rfl
          refine take_ (i := 1) (N := some 15) (v := ?_) (a' := ?_) #[true, true, true, false, false, false, false, false] rfl rfl (take_ofW HT_.out HW_.out (by kernel_rfl)) (fun _ _ _ h => h) (Or.inl ⟨by rfl, ?_⟩) hHeld ?_ ?_
          rotate_left
          · rintro w' ⟨s0, s1, s2, s3, s4⟩
            go_simp
            with_reducible rfl
          rotate_left
          · simp only [Act.put, List.setIfInBounds_toArray, List.set_cons_zero, List.set_cons_succ, i64_w, i32_w]
            rfl
          refine pure_ (i := 4) (N := some 18) (v := ?_) (a' := ?_) #[true, true, true, false, true, false, false, false] rfl rfl (any_of HT_.out (by kernel_rfl)) (fun _ _ _ h => h) (Or.inl ⟨by rfl, ?_⟩) ?_ ?_
          rotate_left
          · intro w'
            go_simp
            with_reducible rfl
          rotate_left
          · simp only [Act.put, List.setIfInBounds_toArray, List.set_cons_zero, List.set_cons_succ, i64_w, i32_w]
            rfl
          refine take_ (i := 3) (N := some 17) (v := ?_) (a' := ?_) #[true, true, true, true, true, false, false, false] rfl rfl (take_ofW HT_.out HW_.out (by kernel_rfl)) (fun _ _ _ h => h) (Or.inl ⟨by rfl, ?_⟩) hHeld ?_ ?_
          rotate_left
          · rintro w' ⟨s0, s1, s2, s3, s4⟩
            go_simp
            with_reducible rfl
          rotate_left
          · simp only [Act.put, List.setIfInBounds_toArray, List.set_cons_zero, List.set_cons_succ, i64_w, i32_w]
            rfl
          refine one_ (i := 5) (N := none) #[true, true, true, true, true, true, false, false] rfl rfl (one_of HT_.out (by kernel_rfl)) (by decide) (fun K hK => ?_)
          have hs45 : w44.cell? ⟨gb102, 1, none⟩ = some (.int .i64 a1_1) := (blk_cell BK102.out 1).trans rfl
          have hfs45 := blk_frozen BK102.out 1
          have hns45_0 := NB101_102.out
          have hns45_2 := NB103_102.out
          have hns45_3 := NB104_102.out
          have hms45_0 := NB102_101.out
          have hms45_2 := NB102_103.out
          have hms45_3 := NB102_104.out
          refine skip_ (w1 := ?_) (by rfl) rfl ?_ ?_
          rotate_left
          · go_simp
            rfl
          refine hK.out _ _ ⟨((cell_far (p := ⟨gb102, _, none⟩) NB101_102.out _).trans (hHeld.1)), ((cell_far (p := ⟨gb102, _, none⟩) NB101_102.out _).trans (hHeld.2.1)), ((cell_far (p := ⟨gb102, _, none⟩) NB101_102.out _).trans (hHeld.2.2.1)), ((cell_far (p := ⟨gb102, _, none⟩) NB101_102.out _).trans (hHeld.2.2.2.1)), ((cell_far (p := ⟨gb102, _, none⟩) NB101_102.out _).trans (hHeld.2.2.2.2))⟩ (fun hHeld => ?_)
          clear hK K
          refine pure_ (i := 6) (N := some 19) (v := ?_) (a' := ?_) #[true, true, true, true, true, true, true, false] rfl rfl (any_of HT_.out (by kernel_rfl)) (fun _ _ _ h => h) (Or.inl ⟨by rfl, ?_⟩) ?_ ?_
          rotate_left
          · intro w'
            go_simp
            with_reducible rfl
          rotate_left
          · simp only [Act.put, List.setIfInBounds_toArray, List.set_cons_zero, List.set_cons_succ, i64_w, i32_w]
            rfl
          refine one_ (i := 7) (N := none) #[true, true, true, true, true, true, true, true] rfl rfl (one_of HT_.out (by kernel_rfl)) (by decide) (fun K hK => ?_)
          have hs46 : w44.cell? ⟨gb102, 2, none⟩ = some (.int .i64 a1_2) := (blk_cell BK102.out 2).trans rfl
          have hfs46 := blk_frozen BK102.out 2
          have hns46_0 := NB101_102.out
          have hns46_2 := NB103_102.out
          have hns46_3 := NB104_102.out
          have hms46_0 := NB102_101.out
          have hms46_2 := NB102_103.out
          have hms46_3 := NB102_104.out
          refine skip_ (w1 := ?_) (by rfl) rfl ?_ ?_
          rotate_left
          · go_simp
            rfl
          refine hK.out _ _ ⟨((cell_far (p := ⟨gb102, _, none⟩) NB101_102.out _).trans (hHeld.1)), ((cell_far (p := ⟨gb102, _, none⟩) NB101_102.out _).trans (hHeld.2.1)), ((cell_far (p := ⟨gb102, _, none⟩) NB101_102.out _).trans (hHeld.2.2.1)), ((cell_far (p := ⟨gb102, _, none⟩) NB101_102.out _).trans (hHeld.2.2.2.1)), ((cell_far (p := ⟨gb102, _, none⟩) NB101_102.out _).trans (hHeld.2.2.2.2))⟩ (fun hHeld => ?_)
          clear hK K
          refine done_ (done_of HT_.out (by kernel_rfl)) ?_
          have hcz47_0 : w44.cell? ⟨gb103, 0, none⟩ = some (.int .i64 a2_0) := (blk_cell BK103.out 0).trans rfl
          have hcz47_1 : w44.cell? ⟨gb103, 1, none⟩ = some (.int .i64 a2_1) := (blk_cell BK103.out 1).trans rfl
          have hcz47_2 : w44.cell? ⟨gb103, 2, none⟩ = some (.bool a2_2) := (blk_cell BK103.out 2).trans rfl
          have hcz47_3 : w44.cell? ⟨gb103, 3, none⟩ = some (.bool a2_3) := (blk_cell BK103.out 3).trans rfl
          have hcz47_4 : w44.cell? ⟨gb103, 4, none⟩ = some (.bool a2_4) := (blk_cell BK103.out 4).trans rfl
          have hcz47_5 : w44.cell? ⟨gb103, 5, none⟩ = some (.bool a2_5) := (blk_cell BK103.out 5).trans rfl
          have hcz47_6 : w44.cell? ⟨gb103, 6, none⟩ = some (.bool a2_6) := (blk_cell BK103.out 6).trans rfl
          have hcz47_7 : w44.cell? ⟨gb103, 7, none⟩ = some (.bool a2_7) := (blk_cell BK103.out 7).trans rfl
          have hcz47_8 : w44.cell? ⟨gb103, 8, none⟩ = some (.bool true) := (blk_cell BK103.out 8).trans rfl
          have hcz47_9 : w44.cell? ⟨gb103, 9, none⟩ = some (.bool false) := (blk_cell BK103.out 9).trans rfl
          have hcz47_10 : w44.cell? ⟨gb103, 10, none⟩ = some (.bool a2_10) := (blk_cell BK103.out 10).trans rfl
          have hcz47_11 : w44.cell? ⟨gb103, 11, none⟩ = some (.bool a2_11) := (blk_cell BK103.out 11).trans rfl
          have hcz47_12 : w44.cell? ⟨gb103, 12, none⟩ = some (.bool a2_12) := (blk_cell BK103.out 12).trans rfl
          have hcz47_13 : w44.cell? ⟨gb103, 13, none⟩ = some (.bool a2_13) := (blk_cell BK103.out 13).trans rfl
          have hcz47_14 : w44.cell? ⟨gb103, 14, none⟩ = some (.bool a2_14) := (blk_cell BK103.out 14).trans rfl
          have hcz47_15 : w44.cell? ⟨gb103, 15, none⟩ = some (.bool a2_15) := (blk_cell BK103.out 15).trans rfl
          have hcz47_16 : w44.cell? ⟨gb103, 16, none⟩ = some (.bool a2_16) := (blk_cell BK103.out 16).trans rfl
          have hcz47_17 : w44.cell? ⟨gb103, 17, none⟩ = some (.bool a2_17) := (blk_cell BK103.out 17).trans rfl
          have hcz47_18 : w44.cell? ⟨gb103, 18, none⟩ = some (.int .i64 a2_18) := (blk_cell BK103.out 18).trans rfl
          have hcz47_19 : w44.cell? ⟨gb103, 19, none⟩ = some (.int .i64 a2_19) := (blk_cell BK103.out 19).trans rfl
          have hcz47_20 : w44.cell? ⟨gb103, 20, none⟩ = some (.int .i64 a2_20) := (blk_cell BK103.out 20).trans rfl
          have hfz47_0 := blk_frozen BK103.out 0
          have hfz47_1 := blk_frozen BK103.out 1
          have hfz47_2 := blk_frozen BK103.out 2
          have hfz47_3 := blk_frozen BK103.out 3
          have hfz47_4 := blk_frozen BK103.out 4
          have hfz47_5 := blk_frozen BK103.out 5
          have hfz47_6 := blk_frozen BK103.out 6
          have hfz47_7 := blk_frozen BK103.out 7
          have hfz47_8 := blk_frozen BK103.out 8
          have hfz47_9 := blk_frozen BK103.out 9
          have hfz47_10 := blk_frozen BK103.out 10
          have hfz47_11 := blk_frozen BK103.out 11
          have hfz47_12 := blk_frozen BK103.out 12
          have hfz47_13 := blk_frozen BK103.out 13
          have hfz47_14 := blk_frozen BK103.out 14
          have hfz47_15 := blk_frozen BK103.out 15
          have hfz47_16 := blk_frozen BK103.out 16
          have hfz47_17 := blk_frozen BK103.out 17
          have hfz47_18 := blk_frozen BK103.out 18
          have hfz47_19 := blk_frozen BK103.out 19
          have hfz47_20 := blk_frozen BK103.out 20
          have hnb48 := NB102_101.out
          have hnc48 := NB101_102.out
          have hnb49 := NB102_104.out
          have hnc49 := NB104_102.out
          have hcz50_0 : w44.cell? ⟨gb102, 0, none⟩ = some (.int .i64 x103000_3) := (blk_cell BK102.out 0).trans rfl
          have hcz50_1 : w44.cell? ⟨gb102, 1, none⟩ = some (.int .i64 a1_1) := (blk_cell BK102.out 1).trans rfl
          have hcz50_2 : w44.cell? ⟨gb102, 2, none⟩ = some (.int .i64 a1_2) := (blk_cell BK102.out 2).trans rfl
          have hcz50_3 : w44.cell? ⟨gb102, 3, none⟩ = some (.int .i64 a1_3) := (blk_cell BK102.out 3).trans rfl
          have hcz50_4 : w44.cell? ⟨gb102, 4, none⟩ = some (.int .i64 a1_4) := (blk_cell BK102.out 4).trans rfl
          have hfz50_0 := blk_frozen BK102.out 0
          have hfz50_1 := blk_frozen BK102.out 1
          have hfz50_2 := blk_frozen BK102.out 2
          have hfz50_3 := blk_frozen BK102.out 3
          have hfz50_4 := blk_frozen BK102.out 4
          have hnb51 := NB104_101.out
          have hnc51 := NB101_104.out
          have hcz52_0 : w44.cell? ⟨gb104, 0, none⟩ = some (.int .i64 0) := (blk_cell BK104.out 0).trans rfl
          have hcz52_1 : w44.cell? ⟨gb104, 1, none⟩ = some (.int .i64 0) := (blk_cell BK104.out 1).trans rfl
          have hcz52_2 : w44.cell? ⟨gb104, 2, none⟩ = some (.int .i64 0) := (blk_cell BK104.out 2).trans rfl
          have hcz52_3 : w44.cell? ⟨gb104, 3, none⟩ = some (.int .i64 0) := (blk_cell BK104.out 3).trans rfl
          have hcz52_4 : w44.cell? ⟨gb104, 4, none⟩ = some (.int .i64 0) := (blk_cell BK104.out 4).trans rfl
          have hfz52_0 := blk_frozen BK104.out 0
          have hfz52_1 := blk_frozen BK104.out 1
          have hfz52_2 := blk_frozen BK104.out 2
          have hfz52_3 := blk_frozen BK104.out 3
          have hfz52_4 := blk_frozen BK104.out 4
          try go_wp2
          refine bodyPost_ret (results_cell_row rfl _ _ gb104 23 #[.int .i64 x103000_3, .int .i64 a0_1, .int .i64 a0_2, .int .i64 a1_3, .int .i64 a1_4] (0, 0) _ rfl (by (with_reducible repeat (first | refine blk_drewN ?_ _ | refine blk_drew ?_ | refine blk_alloc ?_ _)); refine blk_put (cs := #[.int .i64 x103000_3, .int .i64 a0_1, .int .i64 a0_2, .int .i64 a1_3, .int .i64 0]) ?_ 4 _ rfl; (with_reducible repeat (first | refine blk_drewN ?_ _ | refine blk_drew ?_ | refine blk_alloc ?_ _)); refine blk_put (cs := #[.int .i64 x103000_3, .int .i64 a0_1, .int .i64 a0_2, .int .i64 0, .int .i64 0]) ?_ 3 _ rfl; (with_reducible repeat (first | refine blk_drewN ?_ _ | refine blk_drew ?_ | refine blk_alloc ?_ _)); refine blk_put (cs := #[.int .i64 x103000_3, .int .i64 a0_1, .int .i64 0, .int .i64 0, .int .i64 0]) ?_ 2 _ rfl; (with_reducible repeat (first | refine blk_drewN ?_ _ | refine blk_drew ?_ | refine blk_alloc ?_ _)); refine blk_put (cs := #[.int .i64 x103000_3, .int .i64 0, .int .i64 0, .int .i64 0, .int .i64 0]) ?_ 1 _ rfl; (with_reducible repeat (first | refine blk_drewN ?_ _ | refine blk_drew ?_ | refine blk_alloc ?_ _)); refine blk_put (cs := #[.int .i64 0, .int .i64 0, .int .i64 0, .int .i64 0, .int .i64 0]) ?_ 0 _ rfl; (with_reducible repeat (first | refine blk_drewN ?_ _ | refine blk_drew ?_ | refine blk_alloc ?_ _)); refine blk_far ?_ NB104_102.out _; (with_reducible repeat (first | refine blk_drewN ?_ _ | refine blk_drew ?_ | refine blk_alloc ?_ _)); refine blk_far ?_ NB104_102.out _; (with_reducible repeat (first | refine blk_drewN ?_ _ | refine blk_drew ?_ | refine blk_alloc ?_ _)); exact BK104.out) Try.underlying23 rfl (by kernel_rfl)) rfl ?_
          exact ⟨by first | rfl | (simp [errW_none, errW_some] <;> rfl) | (simp [*, errW_none, errW_some] <;> rfl), by repeat (first | (with_reducible first | exact HB.out | apply below_alloc | apply pw_below_drewN | apply below_drew1 | refine below_set ?_ GE101.out | refine below_set ?_ GE102.out | refine below_set ?_ GE103.out | refine below_set ?_ GE104.out) | exact HB.out)⟩
      · replace c21 := Bool.eq_false_iff.mpr c21
        subst c21
        have H1 : (if a2_9 = true then (some (x103000_3, a1_1, a1_2, a0_3, a0_4)) else (some (x103000_3, a1_1, a1_2, a1_3, a1_4))) = some (r1, r2, r3, r4, r5) := by rw [if_neg (show ¬ (false = true) by decide)] at H; exact H
        clear H
        have H := H1
        clear H1
        by_cases c53 : a2_9 = true
        · subst c53
          have H1 : (some (x103000_3, a1_1, a1_2, a0_3, a0_4)) = some (r1, r2, r3, r4, r5) := by rw [if_pos rfl] at H; exact H
          clear H
          have H := H1
          clear H1
          simp only [Option.some.injEq, Prod.mk.injEq] at H
          obtain ⟨rfl, rfl, rfl, rfl, rfl⟩ := H
          have hnb54 := NB103_101.out
          have hnc54 := NB101_103.out
          have hnb55 := NB103_102.out
          have hnc55 := NB102_103.out
          have hnb56 := NB103_104.out
          have hnc56 := NB104_103.out
          have hcz57_0 : wc.cell? ⟨gb103, 0, none⟩ = some (.int .i64 a2_0) := (blk_cell BK103.out 0).trans rfl
          have hcz57_1 : wc.cell? ⟨gb103, 1, none⟩ = some (.int .i64 a2_1) := (blk_cell BK103.out 1).trans rfl
          have hcz57_2 : wc.cell? ⟨gb103, 2, none⟩ = some (.bool a2_2) := (blk_cell BK103.out 2).trans rfl
          have hcz57_3 : wc.cell? ⟨gb103, 3, none⟩ = some (.bool a2_3) := (blk_cell BK103.out 3).trans rfl
          have hcz57_4 : wc.cell? ⟨gb103, 4, none⟩ = some (.bool a2_4) := (blk_cell BK103.out 4).trans rfl
          have hcz57_5 : wc.cell? ⟨gb103, 5, none⟩ = some (.bool a2_5) := (blk_cell BK103.out 5).trans rfl
          have hcz57_6 : wc.cell? ⟨gb103, 6, none⟩ = some (.bool a2_6) := (blk_cell BK103.out 6).trans rfl
          have hcz57_7 : wc.cell? ⟨gb103, 7, none⟩ = some (.bool a2_7) := (blk_cell BK103.out 7).trans rfl
          have hcz57_8 : wc.cell? ⟨gb103, 8, none⟩ = some (.bool false) := (blk_cell BK103.out 8).trans rfl
          have hcz57_9 : wc.cell? ⟨gb103, 9, none⟩ = some (.bool true) := (blk_cell BK103.out 9).trans rfl
          have hcz57_10 : wc.cell? ⟨gb103, 10, none⟩ = some (.bool a2_10) := (blk_cell BK103.out 10).trans rfl
          have hcz57_11 : wc.cell? ⟨gb103, 11, none⟩ = some (.bool a2_11) := (blk_cell BK103.out 11).trans rfl
          have hcz57_12 : wc.cell? ⟨gb103, 12, none⟩ = some (.bool a2_12) := (blk_cell BK103.out 12).trans rfl
          have hcz57_13 : wc.cell? ⟨gb103, 13, none⟩ = some (.bool a2_13) := (blk_cell BK103.out 13).trans rfl
          have hcz57_14 : wc.cell? ⟨gb103, 14, none⟩ = some (.bool a2_14) := (blk_cell BK103.out 14).trans rfl
          have hcz57_15 : wc.cell? ⟨gb103, 15, none⟩ = some (.bool a2_15) := (blk_cell BK103.out 15).trans rfl
          have hcz57_16 : wc.cell? ⟨gb103, 16, none⟩ = some (.bool a2_16) := (blk_cell BK103.out 16).trans rfl
          have hcz57_17 : wc.cell? ⟨gb103, 17, none⟩ = some (.bool a2_17) := (blk_cell BK103.out 17).trans rfl
          have hcz57_18 : wc.cell? ⟨gb103, 18, none⟩ = some (.int .i64 a2_18) := (blk_cell BK103.out 18).trans rfl
          have hcz57_19 : wc.cell? ⟨gb103, 19, none⟩ = some (.int .i64 a2_19) := (blk_cell BK103.out 19).trans rfl
          have hcz57_20 : wc.cell? ⟨gb103, 20, none⟩ = some (.int .i64 a2_20) := (blk_cell BK103.out 20).trans rfl
          have hfz57_0 := blk_frozen BK103.out 0
          have hfz57_1 := blk_frozen BK103.out 1
          have hfz57_2 := blk_frozen BK103.out 2
          have hfz57_3 := blk_frozen BK103.out 3
          have hfz57_4 := blk_frozen BK103.out 4
          have hfz57_5 := blk_frozen BK103.out 5
          have hfz57_6 := blk_frozen BK103.out 6
          have hfz57_7 := blk_frozen BK103.out 7
          have hfz57_8 := blk_frozen BK103.out 8
          have hfz57_9 := blk_frozen BK103.out 9
          have hfz57_10 := blk_frozen BK103.out 10
          have hfz57_11 := blk_frozen BK103.out 11
          have hfz57_12 := blk_frozen BK103.out 12
          have hfz57_13 := blk_frozen BK103.out 13
          have hfz57_14 := blk_frozen BK103.out 14
          have hfz57_15 := blk_frozen BK103.out 15
          have hfz57_16 := blk_frozen BK103.out 16
          have hfz57_17 := blk_frozen BK103.out 17
          have hfz57_18 := blk_frozen BK103.out 18
          have hfz57_19 := blk_frozen BK103.out 19
          have hfz57_20 := blk_frozen BK103.out 20
          try go_wp2
          have n0_ := Aside0.mk (blk_drew BK101.out)
          have n1_ := Aside0.mk (blk_drew BK102.out)
          have n2_ := Aside0.mk (blk_drew BK103.out)
          have n3_ := Aside0.mk (blk_drew BK104.out)
          have n4_ := Aside0.mk (below_drew1 HB.out)
          clear BK101
          clear BK102
          clear BK103
          clear BK104
          clear HB
          have BK101 := n0_
          have BK102 := n1_
          have BK103 := n2_
          have BK104 := n3_
          have HB := n4_
          clear n0_ n1_ n2_ n3_ n4_
          refine start_ (n := 8) (S := fun w' => w'.cell? ⟨gb101, 0, none⟩ = some (.int .i64 a0_0) ∧ w'.cell? ⟨gb101, 1, none⟩ = some (.int .i64 a0_1) ∧ w'.cell? ⟨gb101, 2, none⟩ = some (.int .i64 a0_2) ∧ w'.cell? ⟨gb101, 3, none⟩ = some (.int .i64 a0_3) ∧ w'.cell? ⟨gb101, 4, none⟩ = some (.int .i64 a0_4)) (ds := []) #[false, false, false, false, false, false, false, false] (by kernel_rfl) rfl rfl ⟨(blk_cell BK101.out 0).trans rfl, (blk_cell BK101.out 1).trans rfl, (blk_cell BK101.out 2).trans rfl, (blk_cell BK101.out 3).trans rfl, (blk_cell BK101.out 4).trans rfl⟩ (fun hHeld => ?_); refine with_tabW meta_Take.tab6 meta_Take.bits6 (fun HT_ HW_ => ?_)
          generalize wc.drew = w58 at BK101 BK102 BK103 BK104 HB hHeld ⊢
          refine pure_ (i := 0) (N := some 22) (v := ?_) (a' := ?_) #[true, false, false, false, false, false, false, false] rfl rfl (any_of HT_.out (by kernel_rfl)) (fun _ _ _ h => h) (Or.inl ⟨by rfl, ?_⟩) ?_ ?_
          rotate_left
          · intro w'
            go_simp
            with_reducible rfl
          rotate_left
          · simp only [Act.put, List.setIfInBounds_toArray, List.set_cons_zero, List.set_cons_succ, i64_w, i32_w]
            rfl
          refine pure_ (i := 2) (N := some 24) (v := ?_) (a' := ?_) #[true, false, true, false, false, false, false, false] rfl rfl (any_of HT_.out (by kernel_rfl)) (fun _ _ _ h => h) (Or.inl ⟨by rfl, ?_⟩) ?_ ?_
          rotate_left
          · intro w'
            go_simp
            with_reducible rfl
          rotate_left
          · simp only [Act.put, List.setIfInBounds_toArray, List.set_cons_zero, List.set_cons_succ, i64_w, i32_w]
            rfl
          refine take_ (i := 1) (N := some 23) (v := ?_) (a' := ?_) #[true, true, true, false, false, false, false, false] rfl rfl (take_ofW HT_.out HW_.out (by kernel_rfl)) (fun _ _ _ h => h) (Or.inl ⟨by rfl, ?_⟩) hHeld ?_ ?_
          rotate_left
          · rintro w' ⟨s0, s1, s2, s3, s4⟩
            go_simp
            with_reducible rfl
          rotate_left
          · simp only [Act.put, List.setIfInBounds_toArray, List.set_cons_zero, List.set_cons_succ, i64_w, i32_w]
            rfl
          refine pure_ (i := 4) (N := some 26) (v := ?_) (a' := ?_) #[true, true, true, false, true, false, false, false] rfl rfl (any_of HT_.out (by kernel_rfl)) (fun _ _ _ h => h) (Or.inl ⟨by rfl, ?_⟩) ?_ ?_
          rotate_left
          · intro w'
            go_simp
            with_reducible rfl
          rotate_left
          · simp only [Act.put, List.setIfInBounds_toArray, List.set_cons_zero, List.set_cons_succ, i64_w, i32_w]
            rfl
          refine take_ (i := 3) (N := some 25) (v := ?_) (a' := ?_) #[true, true, true, true, true, false, false, false] rfl rfl (take_ofW HT_.out HW_.out (by kernel_rfl)) (fun _ _ _ h => h) (Or.inl ⟨by rfl, ?_⟩) hHeld ?_ ?_
          rotate_left
          · rintro w' ⟨s0, s1, s2, s3, s4⟩
            go_simp
            with_reducible rfl
          rotate_left
          · simp only [Act.put, List.setIfInBounds_toArray, List.set_cons_zero, List.set_cons_succ, i64_w, i32_w]
            rfl
          refine one_ (i := 5) (N := none) #[true, true, true, true, true, true, false, false] rfl rfl (one_of HT_.out (by kernel_rfl)) (by decide) (fun K hK => ?_)
          have hs59 : w58.cell? ⟨gb102, 3, none⟩ = some (.int .i64 a1_3) := (blk_cell BK102.out 3).trans rfl
          have hfs59 := blk_frozen BK102.out 3
          have hns59_0 := NB101_102.out
          have hns59_2 := NB103_102.out
          have hns59_3 := NB104_102.out
          have hms59_0 := NB102_101.out
          have hms59_2 := NB102_103.out
          have hms59_3 := NB102_104.out
          refine skip_ (w1 := ?_) (by rfl) rfl ?_ ?_
          rotate_left
          · go_simp
            rfl
          refine hK.out _ _ ⟨((cell_far (p := ⟨gb102, _, none⟩) NB101_102.out _).trans (hHeld.1)), ((cell_far (p := ⟨gb102, _, none⟩) NB101_102.out _).trans (hHeld.2.1)), ((cell_far (p := ⟨gb102, _, none⟩) NB101_102.out _).trans (hHeld.2.2.1)), ((cell_far (p := ⟨gb102, _, none⟩) NB101_102.out _).trans (hHeld.2.2.2.1)), ((cell_far (p := ⟨gb102, _, none⟩) NB101_102.out _).trans (hHeld.2.2.2.2))⟩ (fun hHeld => ?_)
          clear hK K
          refine pure_ (i := 6) (N := some 27) (v := ?_) (a' := ?_) #[true, true, true, true, true, true, true, false] rfl rfl (any_of HT_.out (by kernel_rfl)) (fun _ _ _ h => h) (Or.inl ⟨by rfl, ?_⟩) ?_ ?_
          rotate_left
          · intro w'
            go_simp
            with_reducible rfl
          rotate_left
          · simp only [Act.put, List.setIfInBounds_toArray, List.set_cons_zero, List.set_cons_succ, i64_w, i32_w]
            rfl
          refine one_ (i := 7) (N := none) #[true, true, true, true, true, true, true, true] rfl rfl (one_of HT_.out (by kernel_rfl)) (by decide) (fun K hK => ?_)
          have hs60 : w58.cell? ⟨gb102, 4, none⟩ = some (.int .i64 a1_4) := (blk_cell BK102.out 4).trans rfl
          have hfs60 := blk_frozen BK102.out 4
          have hns60_0 := NB101_102.out
          have hns60_2 := NB103_102.out
          have hns60_3 := NB104_102.out
          have hms60_0 := NB102_101.out
          have hms60_2 := NB102_103.out
          have hms60_3 := NB102_104.out
          refine skip_ (w1 := ?_) (by rfl) rfl ?_ ?_
          rotate_left
          · go_simp
            rfl
          refine hK.out _ _ ⟨((cell_far (p := ⟨gb102, _, none⟩) NB101_102.out _).trans (hHeld.1)), ((cell_far (p := ⟨gb102, _, none⟩) NB101_102.out _).trans (hHeld.2.1)), ((cell_far (p := ⟨gb102, _, none⟩) NB101_102.out _).trans (hHeld.2.2.1)), ((cell_far (p := ⟨gb102, _, none⟩) NB101_102.out _).trans (hHeld.2.2.2.1)), ((cell_far (p := ⟨gb102, _, none⟩) NB101_102.out _).trans (hHeld.2.2.2.2))⟩ (fun hHeld => ?_)
          clear hK K
          refine done_ (done_of HT_.out (by kernel_rfl)) ?_
          have hnb61 := NB102_101.out
          have hnc61 := NB101_102.out
          have hnb62 := NB102_104.out
          have hnc62 := NB104_102.out
          have hcz63_0 : w58.cell? ⟨gb102, 0, none⟩ = some (.int .i64 x103000_3) := (blk_cell BK102.out 0).trans rfl
          have hcz63_1 : w58.cell? ⟨gb102, 1, none⟩ = some (.int .i64 a1_1) := (blk_cell BK102.out 1).trans rfl
          have hcz63_2 : w58.cell? ⟨gb102, 2, none⟩ = some (.int .i64 a1_2) := (blk_cell BK102.out 2).trans rfl
          have hcz63_3 : w58.cell? ⟨gb102, 3, none⟩ = some (.int .i64 a1_3) := (blk_cell BK102.out 3).trans rfl
          have hcz63_4 : w58.cell? ⟨gb102, 4, none⟩ = some (.int .i64 a1_4) := (blk_cell BK102.out 4).trans rfl
          have hfz63_0 := blk_frozen BK102.out 0
          have hfz63_1 := blk_frozen BK102.out 1
          have hfz63_2 := blk_frozen BK102.out 2
          have hfz63_3 := blk_frozen BK102.out 3
          have hfz63_4 := blk_frozen BK102.out 4
          have hnb64 := NB104_101.out
          have hnc64 := NB101_104.out
          have hcz65_0 : w58.cell? ⟨gb104, 0, none⟩ = some (.int .i64 0) := (blk_cell BK104.out 0).trans rfl
          have hcz65_1 : w58.cell? ⟨gb104, 1, none⟩ = some (.int .i64 0) := (blk_cell BK104.out 1).trans rfl
          have hcz65_2 : w58.cell? ⟨gb104, 2, none⟩ = some (.int .i64 0) := (blk_cell BK104.out 2).trans rfl
          have hcz65_3 : w58.cell? ⟨gb104, 3, none⟩ = some (.int .i64 0) := (blk_cell BK104.out 3).trans rfl
          have hcz65_4 : w58.cell? ⟨gb104, 4, none⟩ = some (.int .i64 0) := (blk_cell BK104.out 4).trans rfl
          have hfz65_0 := blk_frozen BK104.out 0
          have hfz65_1 := blk_frozen BK104.out 1
          have hfz65_2 := blk_frozen BK104.out 2
          have hfz65_3 := blk_frozen BK104.out 3
          have hfz65_4 := blk_frozen BK104.out 4
          try go_wp2
          refine bodyPost_ret (results_cell_row rfl _ _ gb104 23 #[.int .i64 x103000_3, .int .i64 a1_1, .int .i64 a1_2, .int .i64 a0_3, .int .i64 a0_4] (0, 0) _ rfl (by (with_reducible repeat (first | refine blk_drewN ?_ _ | refine blk_drew ?_ | refine blk_alloc ?_ _)); refine blk_put (cs := #[.int .i64 x103000_3, .int .i64 a1_1, .int .i64 a1_2, .int .i64 a0_3, .int .i64 0]) ?_ 4 _ rfl; (with_reducible repeat (first | refine blk_drewN ?_ _ | refine blk_drew ?_ | refine blk_alloc ?_ _)); refine blk_put (cs := #[.int .i64 x103000_3, .int .i64 a1_1, .int .i64 a1_2, .int .i64 0, .int .i64 0]) ?_ 3 _ rfl; (with_reducible repeat (first | refine blk_drewN ?_ _ | refine blk_drew ?_ | refine blk_alloc ?_ _)); refine blk_put (cs := #[.int .i64 x103000_3, .int .i64 a1_1, .int .i64 0, .int .i64 0, .int .i64 0]) ?_ 2 _ rfl; (with_reducible repeat (first | refine blk_drewN ?_ _ | refine blk_drew ?_ | refine blk_alloc ?_ _)); refine blk_put (cs := #[.int .i64 x103000_3, .int .i64 0, .int .i64 0, .int .i64 0, .int .i64 0]) ?_ 1 _ rfl; (with_reducible repeat (first | refine blk_drewN ?_ _ | refine blk_drew ?_ | refine blk_alloc ?_ _)); refine blk_put (cs := #[.int .i64 0, .int .i64 0, .int .i64 0, .int .i64 0, .int .i64 0]) ?_ 0 _ rfl; (with_reducible repeat (first | refine blk_drewN ?_ _ | refine blk_drew ?_ | refine blk_alloc ?_ _)); refine blk_far ?_ NB104_102.out _; (with_reducible repeat (first | refine blk_drewN ?_ _ | refine blk_drew ?_ | refine blk_alloc ?_ _)); refine blk_far ?_ NB104_102.out _; (with_reducible repeat (first | refine blk_drewN ?_ _ | refine blk_drew ?_ | refine blk_alloc ?_ _)); exact BK104.out) Try.underlying23 rfl (by kernel_rfl)) rfl ?_
          exact ⟨by first | rfl | (simp [errW_none, errW_some] <;> rfl) | (simp [*, errW_none, errW_some] <;> rfl), by repeat (first | (with_reducible first | exact HB.out | apply below_alloc | apply pw_below_drewN | apply below_drew1 | refine below_set ?_ GE101.out | refine below_set ?_ GE102.out | refine below_set ?_ GE103.out | refine below_set ?_ GE104.out) | exact HB.out)⟩
        · replace c53 := Bool.eq_false_iff.mpr c53
          subst c53
          have H1 : (some (x103000_3, a1_1, a1_2, a1_3, a1_4)) = some (r1, r2, r3, r4, r5) := by rw [if_neg (show ¬ (false = true) by decide)] at H; exact H
          clear H
          have H := H1
          clear H1
          simp only [Option.some.injEq, Prod.mk.injEq] at H
          obtain ⟨rfl, rfl, rfl, rfl, rfl⟩ := H
          have hnb66 := NB103_101.out
          have hnc66 := NB101_103.out
          have hnb67 := NB103_102.out
          have hnc67 := NB102_103.out
          have hnb68 := NB103_104.out
          have hnc68 := NB104_103.out
          have hcz69_0 : wc.cell? ⟨gb103, 0, none⟩ = some (.int .i64 a2_0) := (blk_cell BK103.out 0).trans rfl
          have hcz69_1 : wc.cell? ⟨gb103, 1, none⟩ = some (.int .i64 a2_1) := (blk_cell BK103.out 1).trans rfl
          have hcz69_2 : wc.cell? ⟨gb103, 2, none⟩ = some (.bool a2_2) := (blk_cell BK103.out 2).trans rfl
          have hcz69_3 : wc.cell? ⟨gb103, 3, none⟩ = some (.bool a2_3) := (blk_cell BK103.out 3).trans rfl
          have hcz69_4 : wc.cell? ⟨gb103, 4, none⟩ = some (.bool a2_4) := (blk_cell BK103.out 4).trans rfl
          have hcz69_5 : wc.cell? ⟨gb103, 5, none⟩ = some (.bool a2_5) := (blk_cell BK103.out 5).trans rfl
          have hcz69_6 : wc.cell? ⟨gb103, 6, none⟩ = some (.bool a2_6) := (blk_cell BK103.out 6).trans rfl
          have hcz69_7 : wc.cell? ⟨gb103, 7, none⟩ = some (.bool a2_7) := (blk_cell BK103.out 7).trans rfl
          have hcz69_8 : wc.cell? ⟨gb103, 8, none⟩ = some (.bool false) := (blk_cell BK103.out 8).trans rfl
          have hcz69_9 : wc.cell? ⟨gb103, 9, none⟩ = some (.bool false) := (blk_cell BK103.out 9).trans rfl
          have hcz69_10 : wc.cell? ⟨gb103, 10, none⟩ = some (.bool a2_10) := (blk_cell BK103.out 10).trans rfl
          have hcz69_11 : wc.cell? ⟨gb103, 11, none⟩ = some (.bool a2_11) := (blk_cell BK103.out 11).trans rfl
          have hcz69_12 : wc.cell? ⟨gb103, 12, none⟩ = some (.bool a2_12) := (blk_cell BK103.out 12).trans rfl
          have hcz69_13 : wc.cell? ⟨gb103, 13, none⟩ = some (.bool a2_13) := (blk_cell BK103.out 13).trans rfl
          have hcz69_14 : wc.cell? ⟨gb103, 14, none⟩ = some (.bool a2_14) := (blk_cell BK103.out 14).trans rfl
          have hcz69_15 : wc.cell? ⟨gb103, 15, none⟩ = some (.bool a2_15) := (blk_cell BK103.out 15).trans rfl
          have hcz69_16 : wc.cell? ⟨gb103, 16, none⟩ = some (.bool a2_16) := (blk_cell BK103.out 16).trans rfl
          have hcz69_17 : wc.cell? ⟨gb103, 17, none⟩ = some (.bool a2_17) := (blk_cell BK103.out 17).trans rfl
          have hcz69_18 : wc.cell? ⟨gb103, 18, none⟩ = some (.int .i64 a2_18) := (blk_cell BK103.out 18).trans rfl
          have hcz69_19 : wc.cell? ⟨gb103, 19, none⟩ = some (.int .i64 a2_19) := (blk_cell BK103.out 19).trans rfl
          have hcz69_20 : wc.cell? ⟨gb103, 20, none⟩ = some (.int .i64 a2_20) := (blk_cell BK103.out 20).trans rfl
          have hfz69_0 := blk_frozen BK103.out 0
          have hfz69_1 := blk_frozen BK103.out 1
          have hfz69_2 := blk_frozen BK103.out 2
          have hfz69_3 := blk_frozen BK103.out 3
          have hfz69_4 := blk_frozen BK103.out 4
          have hfz69_5 := blk_frozen BK103.out 5
          have hfz69_6 := blk_frozen BK103.out 6
          have hfz69_7 := blk_frozen BK103.out 7
          have hfz69_8 := blk_frozen BK103.out 8
          have hfz69_9 := blk_frozen BK103.out 9
          have hfz69_10 := blk_frozen BK103.out 10
          have hfz69_11 := blk_frozen BK103.out 11
          have hfz69_12 := blk_frozen BK103.out 12
          have hfz69_13 := blk_frozen BK103.out 13
          have hfz69_14 := blk_frozen BK103.out 14
          have hfz69_15 := blk_frozen BK103.out 15
          have hfz69_16 := blk_frozen BK103.out 16
          have hfz69_17 := blk_frozen BK103.out 17
          have hfz69_18 := blk_frozen BK103.out 18
          have hfz69_19 := blk_frozen BK103.out 19
          have hfz69_20 := blk_frozen BK103.out 20
          have hnb70 := NB102_101.out
          have hnc70 := NB101_102.out
          have hnb71 := NB102_104.out
          have hnc71 := NB104_102.out
          have hcz72_0 : wc.cell? ⟨gb102, 0, none⟩ = some (.int .i64 x103000_3) := (blk_cell BK102.out 0).trans rfl
          have hcz72_1 : wc.cell? ⟨gb102, 1, none⟩ = some (.int .i64 a1_1) := (blk_cell BK102.out 1).trans rfl
          have hcz72_2 : wc.cell? ⟨gb102, 2, none⟩ = some (.int .i64 a1_2) := (blk_cell BK102.out 2).trans rfl
          have hcz72_3 : wc.cell? ⟨gb102, 3, none⟩ = some (.int .i64 a1_3) := (blk_cell BK102.out 3).trans rfl
          have hcz72_4 : wc.cell? ⟨gb102, 4, none⟩ = some (.int .i64 a1_4) := (blk_cell BK102.out 4).trans rfl
          have hfz72_0 := blk_frozen BK102.out 0
          have hfz72_1 := blk_frozen BK102.out 1
          have hfz72_2 := blk_frozen BK102.out 2
          have hfz72_3 := blk_frozen BK102.out 3
          have hfz72_4 := blk_frozen BK102.out 4
          have hnb73 := NB104_101.out
          have hnc73 := NB101_104.out
          have hcz74_0 : wc.cell? ⟨gb104, 0, none⟩ = some (.int .i64 0) := (blk_cell BK104.out 0).trans rfl
          have hcz74_1 : wc.cell? ⟨gb104, 1, none⟩ = some (.int .i64 0) := (blk_cell BK104.out 1).trans rfl
          have hcz74_2 : wc.cell? ⟨gb104, 2, none⟩ = some (.int .i64 0) := (blk_cell BK104.out 2).trans rfl
          have hcz74_3 : wc.cell? ⟨gb104, 3, none⟩ = some (.int .i64 0) := (blk_cell BK104.out 3).trans rfl
          have hcz74_4 : wc.cell? ⟨gb104, 4, none⟩ = some (.int .i64 0) := (blk_cell BK104.out 4).trans rfl
          have hfz74_0 := blk_frozen BK104.out 0
          have hfz74_1 := blk_frozen BK104.out 1
          have hfz74_2 := blk_frozen BK104.out 2
          have hfz74_3 := blk_frozen BK104.out 3
          have hfz74_4 := blk_frozen BK104.out 4
          go_wp2
          refine bodyPost_ret (results_cell_row rfl _ _ gb104 23 #[.int .i64 x103000_3, .int .i64 a1_1, .int .i64 a1_2, .int .i64 a1_3, .int .i64 a1_4] (0, 0) _ rfl (by (with_reducible repeat (first | refine blk_drewN ?_ _ | refine blk_drew ?_ | refine blk_alloc ?_ _)); refine blk_put (cs := #[.int .i64 x103000_3, .int .i64 a1_1, .int .i64 a1_2, .int .i64 a1_3, .int .i64 0]) ?_ 4 _ rfl; (with_reducible repeat (first | refine blk_drewN ?_ _ | refine blk_drew ?_ | refine blk_alloc ?_ _)); refine blk_put (cs := #[.int .i64 x103000_3, .int .i64 a1_1, .int .i64 a1_2, .int .i64 0, .int .i64 0]) ?_ 3 _ rfl; (with_reducible repeat (first | refine blk_drewN ?_ _ | refine blk_drew ?_ | refine blk_alloc ?_ _)); refine blk_put (cs := #[.int .i64 x103000_3, .int .i64 a1_1, .int .i64 0, .int .i64 0, .int .i64 0]) ?_ 2 _ rfl; (with_reducible repeat (first | refine blk_drewN ?_ _ | refine blk_drew ?_ | refine blk_alloc ?_ _)); refine blk_put (cs := #[.int .i64 x103000_3, .int .i64 0, .int .i64 0, .int .i64 0, .int .i64 0]) ?_ 1 _ rfl; (with_reducible repeat (first | refine blk_drewN ?_ _ | refine blk_drew ?_ | refine blk_alloc ?_ _)); refine blk_put (cs := #[.int .i64 0, .int .i64 0, .int .i64 0, .int .i64 0, .int .i64 0]) ?_ 0 _ rfl; (with_reducible repeat (first | refine blk_drewN ?_ _ | refine blk_drew ?_ | refine blk_alloc ?_ _)); exact BK104.out) Try.underlying23 rfl (by kernel_rfl)) rfl ?_
          exact ⟨by first | rfl | (simp [errW_none, errW_some] <;> rfl) | (simp [*, errW_none, errW_some] <;> rfl), by repeat (first | (with_reducible first | exact HB.out | apply below_alloc | apply pw_below_drewN | apply below_drew1 | refine below_set ?_ GE101.out | refine below_set ?_ GE102.out | refine below_set ?_ GE103.out | refine below_set ?_ GE104.out) | exact HB.out)⟩

end Go.Proofs.Ytniedfbchcgaoaa.PA
