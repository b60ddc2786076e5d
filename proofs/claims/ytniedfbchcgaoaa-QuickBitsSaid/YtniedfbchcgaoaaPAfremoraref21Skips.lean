-- Written by a program of this session (the kit's print with this repo's externals: px.py).
import Derived.Test.YtniedfbchcgaoaaPAx0
import Derived.Test.YtniedfbchcgaoaaPAfremoraref16Near
import Derived.Test.YtniedfbchcgaoaaPAfremoraref21later
namespace Go.Proofs.Ytniedfbchcgaoaa.PA
open Go.RowKit Go.Proofs.YtniedfbchcgaoaaW.PrintWords Go.Proofs.YtniedfbchcgaoaaW.PrintLast Go.Proofs.YtniedfbchcgaoaaW.PrintMore
attribute [local go_sem] max2_int min2_int max_two min_two max_three min_three max_four min_four   -- for this text's walks alone
set_option linter.unusedVariables false
set_option linter.unusedSimpArgs false

/-! ### remoraref21_Skips: function 18 -/
def remoraref21_Skips.j0 : Nat → Bool → ByteArray → Int → Int → Int → Int → Int → Int → Int → ByteArray → ByteArray → Int → ByteArray → Int → Int → Int → Int → Int → Int → Int → ByteArray → ByteArray → Int → Int → Int → Bool → Bool → Bool → Bool → Bool → Bool → Bool → Bool → Bool → Bool → Bool → Bool → Bool → Bool → Bool → Bool → Int → Int → Int → Option (Bool)
  | 0, _, _, _, _, _, _, _, _, _, _, _, _, _, _, _, _, _, _, _, _, _, _, _, _, _, _, _, _, _, _, _, _, _, _, _, _, _, _, _, _, _, _, _, _ => none
  | k + 1, x24, x102000, x102001, x102002, x102003, x102004, x102005, x102006, x102007, x102008, x102009, x102010, x103000, x103001, x103002, x103003, x103004, x103005, x103006, x103007, x103008, x103009, x103010, x104000, x104001, x104002, x104003, x104004, x104005, x104006, x104007, x104008, x104009, x104010, x104011, x104012, x104013, x104014, x104015, x104016, x104017, x104018, x104019, x104020 => if x24 = true then (some true) else (if x104004 = true then (if x102001 = 1 then (if x103001 = 1 then ((remoraref21_later.f x103003 x103004 x103005 x103006 x103007 x102003 x102004 x102005 x102006 x102007).bind fun t104 => (if t104 = true then ((remoraref16_Near.f k x102003 x102004 x102005 x102006 x102007 x103003 x103004 x103005 x103006 x103007 x104018).bind fun t105 => (some (!t105))) else (some false))) else (some false)) else (some false)) else (some false))
def remoraref21_Skips.f (k : Nat) (a0_0 : ByteArray) (a0_1 : Int) (a0_2 : Int) (a0_3 : Int) (a0_4 : Int) (a0_5 : Int) (a0_6 : Int) (a0_7 : Int) (a0_8 : ByteArray) (a0_9 : ByteArray) (a0_10 : Int) (a1_0 : ByteArray) (a1_1 : Int) (a1_2 : Int) (a1_3 : Int) (a1_4 : Int) (a1_5 : Int) (a1_6 : Int) (a1_7 : Int) (a1_8 : ByteArray) (a1_9 : ByteArray) (a1_10 : Int) (a2 : Bool) (a3_0 : Int) (a3_1 : Int) (a3_2 : Bool) (a3_3 : Bool) (a3_4 : Bool) (a3_5 : Bool) (a3_6 : Bool) (a3_7 : Bool) (a3_8 : Bool) (a3_9 : Bool) (a3_10 : Bool) (a3_11 : Bool) (a3_12 : Bool) (a3_13 : Bool) (a3_14 : Bool) (a3_15 : Bool) (a3_16 : Bool) (a3_17 : Bool) (a3_18 : Int) (a3_19 : Int) (a3_20 : Int) : Option (Bool) := if a2 = true then (if a3_6 = true then (if a0_1 = 2 then (remoraref21_Skips.j0 k (a1_1 != 2) a0_0 a0_1 a0_2 a0_3 a0_4 a0_5 a0_6 a0_7 a0_8 a0_9 a0_10 a1_0 a1_1 a1_2 a1_3 a1_4 a1_5 a1_6 a1_7 a1_8 a1_9 a1_10 a3_0 a3_1 a3_2 a3_3 a3_4 a3_5 a3_6 a3_7 a3_8 a3_9 a3_10 a3_11 a3_12 a3_13 a3_14 a3_15 a3_16 a3_17 a3_18 a3_19 a3_20) else (remoraref21_Skips.j0 k true a0_0 a0_1 a0_2 a0_3 a0_4 a0_5 a0_6 a0_7 a0_8 a0_9 a0_10 a1_0 a1_1 a1_2 a1_3 a1_4 a1_5 a1_6 a1_7 a1_8 a1_9 a1_10 a3_0 a3_1 a3_2 a3_3 a3_4 a3_5 a3_6 a3_7 a3_8 a3_9 a3_10 a3_11 a3_12 a3_13 a3_14 a3_15 a3_16 a3_17 a3_18 a3_19 a3_20)) else (remoraref21_Skips.j0 k false a0_0 a0_1 a0_2 a0_3 a0_4 a0_5 a0_6 a0_7 a0_8 a0_9 a0_10 a1_0 a1_1 a1_2 a1_3 a1_4 a1_5 a1_6 a1_7 a1_8 a1_9 a1_10 a3_0 a3_1 a3_2 a3_3 a3_4 a3_5 a3_6 a3_7 a3_8 a3_9 a3_10 a3_11 a3_12 a3_13 a3_14 a3_15 a3_16 a3_17 a3_18 a3_19 a3_20)) else (some a3_5)
theorem remoraref21_Skips.mono_l : ∀ k, (∀ y0 y1 y2 y3 y4 y5 y6 y7 y8 y9 y10 y11 y12 y13 y14 y15 y16 y17 y18 y19 y20 y21 y22 y23 y24 y25 y26 y27 y28 y29 y30 y31 y32 y33 y34 y35 y36 y37 y38 y39 y40 y41 y42 y43, LeO (remoraref21_Skips.j0 k y0 y1 y2 y3 y4 y5 y6 y7 y8 y9 y10 y11 y12 y13 y14 y15 y16 y17 y18 y19 y20 y21 y22 y23 y24 y25 y26 y27 y28 y29 y30 y31 y32 y33 y34 y35 y36 y37 y38 y39 y40 y41 y42 y43) (remoraref21_Skips.j0 (k + 1) y0 y1 y2 y3 y4 y5 y6 y7 y8 y9 y10 y11 y12 y13 y14 y15 y16 y17 y18 y19 y20 y21 y22 y23 y24 y25 y26 y27 y28 y29 y30 y31 y32 y33 y34 y35 y36 y37 y38 y39 y40 y41 y42 y43))
  | 0 => fun _ _ _ _ _ _ _ _ _ _ _ _ _ _ _ _ _ _ _ _ _ _ _ _ _ _ _ _ _ _ _ _ _ _ _ _ _ _ _ _ _ _ _ _ r h => by simp [remoraref21_Skips.j0] at h
  | k + 1 => by
    have ih0 := remoraref21_Skips.mono_l k
    · intro y0 y1 y2 y3 y4 y5 y6 y7 y8 y9 y10 y11 y12 y13 y14 y15 y16 y17 y18 y19 y20 y21 y22 y23 y24 y25 y26 y27 y28 y29 y30 y31 y32 y33 y34 y35 y36 y37 y38 y39 y40 y41 y42 y43
      unfold remoraref21_Skips.j0
      repeat' first
      | (with_reducible exact ih0 _ _ _ _ _ _ _ _ _ _ _ _ _ _ _ _ _ _ _ _ _ _ _ _ _ _ _ _ _ _ _ _ _ _ _ _ _ _ _ _ _ _ _ _)
      | (with_reducible exact remoraref16_Near.mono _ _ _ _ _ _ _ _ _ _ _ _)
      | (with_reducible exact LeO.refl _)
      | (with_reducible exact LeO.none _)
      | (with_reducible refine LeO.ite ?_ ?_)
      | (with_reducible refine LeO.bind ?_ (fun _ => ?_))
      | exact ih0 _ _ _ _ _ _ _ _ _ _ _ _ _ _ _ _ _ _ _ _ _ _ _ _ _ _ _ _ _ _ _ _ _ _ _ _ _ _ _ _ _ _ _ _
      | exact remoraref16_Near.mono _ _ _ _ _ _ _ _ _ _ _ _
      | exact LeO.none _
      | refine LeO.ite ?_ ?_
      | refine LeO.bind ?_ (fun _ => ?_)
theorem remoraref21_Skips.mono : ∀ a0 a1 a2 a3 a4 a5 a6 a7 a8 a9 a10 a11 a12 a13 a14 a15 a16 a17 a18 a19 a20 a21 a22 a23 a24 a25 a26 a27 a28 a29 a30 a31 a32 a33 a34 a35 a36 a37 a38 a39 a40 a41 a42 a43 k, LeO (remoraref21_Skips.f k a0 a1 a2 a3 a4 a5 a6 a7 a8 a9 a10 a11 a12 a13 a14 a15 a16 a17 a18 a19 a20 a21 a22 a23 a24 a25 a26 a27 a28 a29 a30 a31 a32 a33 a34 a35 a36 a37 a38 a39 a40 a41 a42 a43) (remoraref21_Skips.f (k + 1) a0 a1 a2 a3 a4 a5 a6 a7 a8 a9 a10 a11 a12 a13 a14 a15 a16 a17 a18 a19 a20 a21 a22 a23 a24 a25 a26 a27 a28 a29 a30 a31 a32 a33 a34 a35 a36 a37 a38 a39 a40 a41 a42 a43) := by
  intro a0 a1 a2 a3 a4 a5 a6 a7 a8 a9 a10 a11 a12 a13 a14 a15 a16 a17 a18 a19 a20 a21 a22 a23 a24 a25 a26 a27 a28 a29 a30 a31 a32 a33 a34 a35 a36 a37 a38 a39 a40 a41 a42 a43 k
  have ih0 := remoraref21_Skips.mono_l k
  unfold remoraref21_Skips.f
  repeat' first
      | (with_reducible exact ih0 _ _ _ _ _ _ _ _ _ _ _ _ _ _ _ _ _ _ _ _ _ _ _ _ _ _ _ _ _ _ _ _ _ _ _ _ _ _ _ _ _ _ _ _)
      | (with_reducible exact remoraref16_Near.mono _ _ _ _ _ _ _ _ _ _ _ _)
      | (with_reducible exact LeO.refl _)
      | (with_reducible exact LeO.none _)
      | (with_reducible refine LeO.ite ?_ ?_)
      | (with_reducible refine LeO.bind ?_ (fun _ => ?_))
      | exact ih0 _ _ _ _ _ _ _ _ _ _ _ _ _ _ _ _ _ _ _ _ _ _ _ _ _ _ _ _ _ _ _ _ _ _ _ _ _ _ _ _ _ _ _ _
      | exact remoraref16_Near.mono _ _ _ _ _ _ _ _ _ _ _ _
      | exact LeO.none _
      | refine LeO.ite ?_ ?_
      | refine LeO.bind ?_ (fun _ => ?_)
set_option maxHeartbeats 8000000 in
set_option maxRecDepth 100000 in
theorem remoraref21_Skips.calls (k : Nat) (a0_0 : ByteArray) (a0_1 : Int) (a0_2 : Int) (a0_3 : Int) (a0_4 : Int) (a0_5 : Int) (a0_6 : Int) (a0_7 : Int) (a0_8 : ByteArray) (a0_9 : ByteArray) (a0_10 : Int) (a1_0 : ByteArray) (a1_1 : Int) (a1_2 : Int) (a1_3 : Int) (a1_4 : Int) (a1_5 : Int) (a1_6 : Int) (a1_7 : Int) (a1_8 : ByteArray) (a1_9 : ByteArray) (a1_10 : Int) (a2 : Bool) (a3_0 : Int) (a3_1 : Int) (a3_2 : Bool) (a3_3 : Bool) (a3_4 : Bool) (a3_5 : Bool) (a3_6 : Bool) (a3_7 : Bool) (a3_8 : Bool) (a3_9 : Bool) (a3_10 : Bool) (a3_11 : Bool) (a3_12 : Bool) (a3_13 : Bool) (a3_14 : Bool) (a3_15 : Bool) (a3_16 : Bool) (a3_17 : Bool) (a3_18 : Int) (a3_19 : Int) (a3_20 : Int) (r : Bool) (w : World) (h : remoraref21_Skips.f k a0_0 a0_1 a0_2 a0_3 a0_4 a0_5 a0_6 a0_7 a0_8 a0_9 a0_10 a1_0 a1_1 a1_2 a1_3 a1_4 a1_5 a1_6 a1_7 a1_8 a1_9 a1_10 a2 a3_0 a3_1 a3_2 a3_3 a3_4 a3_5 a3_6 a3_7 a3_8 a3_9 a3_10 a3_11 a3_12 a3_13 a3_14 a3_15 a3_16 a3_17 a3_18 a3_19 a3_20 = some r) :
    Calls Try.prog 18 #[.agg #[.string a0_0, .int .i64 a0_1, .int .i64 a0_2, .int .i64 a0_3, .int .i64 a0_4, .int .i64 a0_5, .int .i64 a0_6, .int .i64 a0_7, .string a0_8, .string a0_9, .int .i64 a0_10], .agg #[.string a1_0, .int .i64 a1_1, .int .i64 a1_2, .int .i64 a1_3, .int .i64 a1_4, .int .i64 a1_5, .int .i64 a1_6, .int .i64 a1_7, .string a1_8, .string a1_9, .int .i64 a1_10], .bool a2, .agg #[.int .i64 a3_0, .int .i64 a3_1, .bool a3_2, .bool a3_3, .bool a3_4, .bool a3_5, .bool a3_6, .bool a3_7, .bool a3_8, .bool a3_9, .bool a3_10, .bool a3_11, .bool a3_12, .bool a3_13, .bool a3_14, .bool a3_15, .bool a3_16, .bool a3_17, .int .i64 a3_18, .int .i64 a3_19, .int .i64 a3_20]] w fun e w' => e = .returned (.bool r) ∧ Below w.heap.size w w' := by
  have hu25 := Try.underlying25
  have hu27 := Try.underlying27
  have hu23 := Try.underlying23
  have HB := Aside0.mk (Below.refl w.heap.size w)
  have H : (if a2 = true then (if a3_6 = true then (if a0_1 = 2 then (remoraref21_Skips.j0 k (a1_1 != 2) a0_0 a0_1 a0_2 a0_3 a0_4 a0_5 a0_6 a0_7 a0_8 a0_9 a0_10 a1_0 a1_1 a1_2 a1_3 a1_4 a1_5 a1_6 a1_7 a1_8 a1_9 a1_10 a3_0 a3_1 a3_2 a3_3 a3_4 a3_5 a3_6 a3_7 a3_8 a3_9 a3_10 a3_11 a3_12 a3_13 a3_14 a3_15 a3_16 a3_17 a3_18 a3_19 a3_20) else (remoraref21_Skips.j0 k true a0_0 a0_1 a0_2 a0_3 a0_4 a0_5 a0_6 a0_7 a0_8 a0_9 a0_10 a1_0 a1_1 a1_2 a1_3 a1_4 a1_5 a1_6 a1_7 a1_8 a1_9 a1_10 a3_0 a3_1 a3_2 a3_3 a3_4 a3_5 a3_6 a3_7 a3_8 a3_9 a3_10 a3_11 a3_12 a3_13 a3_14 a3_15 a3_16 a3_17 a3_18 a3_19 a3_20)) else (remoraref21_Skips.j0 k false a0_0 a0_1 a0_2 a0_3 a0_4 a0_5 a0_6 a0_7 a0_8 a0_9 a0_10 a1_0 a1_1 a1_2 a1_3 a1_4 a1_5 a1_6 a1_7 a1_8 a1_9 a1_10 a3_0 a3_1 a3_2 a3_3 a3_4 a3_5 a3_6 a3_7 a3_8 a3_9 a3_10 a3_11 a3_12 a3_13 a3_14 a3_15 a3_16 a3_17 a3_18 a3_19 a3_20)) else (some a3_5)) = some r := h
  clear h
  by_cases c5 : a2 = true
  · subst c5
    have H1 : (if a3_6 = true then (if a0_1 = 2 then (remoraref21_Skips.j0 k (a1_1 != 2) a0_0 a0_1 a0_2 a0_3 a0_4 a0_5 a0_6 a0_7 a0_8 a0_9 a0_10 a1_0 a1_1 a1_2 a1_3 a1_4 a1_5 a1_6 a1_7 a1_8 a1_9 a1_10 a3_0 a3_1 a3_2 a3_3 a3_4 a3_5 a3_6 a3_7 a3_8 a3_9 a3_10 a3_11 a3_12 a3_13 a3_14 a3_15 a3_16 a3_17 a3_18 a3_19 a3_20) else (remoraref21_Skips.j0 k true a0_0 a0_1 a0_2 a0_3 a0_4 a0_5 a0_6 a0_7 a0_8 a0_9 a0_10 a1_0 a1_1 a1_2 a1_3 a1_4 a1_5 a1_6 a1_7 a1_8 a1_9 a1_10 a3_0 a3_1 a3_2 a3_3 a3_4 a3_5 a3_6 a3_7 a3_8 a3_9 a3_10 a3_11 a3_12 a3_13 a3_14 a3_15 a3_16 a3_17 a3_18 a3_19 a3_20)) else (remoraref21_Skips.j0 k false a0_0 a0_1 a0_2 a0_3 a0_4 a0_5 a0_6 a0_7 a0_8 a0_9 a0_10 a1_0 a1_1 a1_2 a1_3 a1_4 a1_5 a1_6 a1_7 a1_8 a1_9 a1_10 a3_0 a3_1 a3_2 a3_3 a3_4 a3_5 a3_6 a3_7 a3_8 a3_9 a3_10 a3_11 a3_12 a3_13 a3_14 a3_15 a3_16 a3_17 a3_18 a3_19 a3_20)) = some r := by rw [if_pos rfl] at H; exact H
    clear H
    have H := H1
    clear H1
    have HC6 := Aside0.mk H
    clear H
    go_enter Try.func18, Try.ntmps18
    go_upto_region 3 with (first | ((with_reducible refine gate_dst (N := 4) rfl ?_); refine box_event ?hg (N := 4) ?hd (cs := #[.string a0_0, .int .i64 a0_1, .int .i64 a0_2, .int .i64 a0_3, .int .i64 a0_4, .int .i64 a0_5, .int .i64 a0_6, .int .i64 a0_7, .string a0_8, .string a0_9, .int .i64 a0_10]) (t := 25) ?hr ?_; (case hd => rfl); (case hg => rfl); (case hr => first | (go_simp; done) | (go_simp; rfl)); intro gb101 hg w7 hbox hb; have n0_ := Aside0.mk (below_step (by repeat (first | (with_reducible first | exact HB.out | apply below_alloc | apply pw_below_drewN | apply below_drew1) | exact HB.out)) hb); have n1_ := Aside0.mk (hbox); have n2_ := Aside0.mk ((by rw [hg]; exact (below_size (by repeat (first | (with_reducible first | exact HB.out | apply below_alloc | apply pw_below_drewN | apply below_drew1) | exact HB.out))) : w.heap.size ≤ gb101)); have n3_ := Aside0.mk ((by rw [hg]; exact (below_size (by repeat (first | (with_reducible first | exact HB.out | apply below_alloc | apply pw_below_drewN | apply below_drew1) | exact HB.out))) : w.heap.size ≤ gb101)); clear HB; have HB := n0_; have BK101 := n1_; have GW101 := n2_; have GE101 := n3_; clear n0_ n1_ n2_ n3_; clear hb hbox hg) | ((with_reducible refine gate_dst (N := 5) rfl ?_); refine box_event ?hg (N := 5) ?hd (cs := #[.string a1_0, .int .i64 a1_1, .int .i64 a1_2, .int .i64 a1_3, .int .i64 a1_4, .int .i64 a1_5, .int .i64 a1_6, .int .i64 a1_7, .string a1_8, .string a1_9, .int .i64 a1_10]) (t := 25) ?hr ?_; (case hd => rfl); (case hg => rfl); (case hr => first | (go_simp; done) | (go_simp; rfl)); intro gb102 hg w8 hbox hb; have n0_ := Aside0.mk (blk_below (g := gb101) (o := .cells #[.string a0_0, .int .i64 a0_1, .int .i64 a0_2, .int .i64 a0_3, .int .i64 a0_4, .int .i64 a0_5, .int .i64 a0_6, .int .i64 a0_7, .string a0_8, .string a0_9, .int .i64 a0_10] 25 (0, 0)) (by (with_reducible repeat (first | refine blk_drewN ?_ _ | refine blk_drew ?_ | refine blk_alloc ?_ _)); exact BK101.out) hb); have n1_ := Aside0.mk (below_step (by repeat (first | (with_reducible first | exact HB.out | apply below_alloc | apply pw_below_drewN | apply below_drew1 | refine below_set ?_ GE101.out) | exact HB.out)) hb); have n2_ := Aside0.mk (hbox); have n3_ := Aside0.mk ((by rw [hg]; exact (below_size (by repeat (first | (with_reducible first | exact HB.out | apply below_alloc | apply pw_below_drewN | apply below_drew1 | refine below_set ?_ GE101.out) | exact HB.out))) : w.heap.size ≤ gb102)); have n4_ := Aside0.mk ((by rw [hg]; exact (below_size (by repeat (first | (with_reducible first | exact HB.out | apply below_alloc | apply pw_below_drewN | apply below_drew1 | refine below_set ?_ GE101.out) | exact HB.out))) : w.heap.size ≤ gb102)); have n5_ := Aside0.mk ((by rw [hg]; exact Nat.ne_of_lt (blk_lt (g := gb101) (o := .cells #[.string a0_0, .int .i64 a0_1, .int .i64 a0_2, .int .i64 a0_3, .int .i64 a0_4, .int .i64 a0_5, .int .i64 a0_6, .int .i64 a0_7, .string a0_8, .string a0_9, .int .i64 a0_10] 25 (0, 0)) (by (with_reducible repeat (first | refine blk_drewN ?_ _ | refine blk_drew ?_ | refine blk_alloc ?_ _)); exact BK101.out)) : gb101 ≠ gb102)); have n6_ := Aside0.mk ((by rw [hg]; exact Nat.ne_of_gt (blk_lt (g := gb101) (o := .cells #[.string a0_0, .int .i64 a0_1, .int .i64 a0_2, .int .i64 a0_3, .int .i64 a0_4, .int .i64 a0_5, .int .i64 a0_6, .int .i64 a0_7, .string a0_8, .string a0_9, .int .i64 a0_10] 25 (0, 0)) (by (with_reducible repeat (first | refine blk_drewN ?_ _ | refine blk_drew ?_ | refine blk_alloc ?_ _)); exact BK101.out)) : gb102 ≠ gb101)); clear BK101; clear HB; have BK101 := n0_; have HB := n1_; have BK102 := n2_; have GW102 := n3_; have GE102 := n4_; have NB101_102 := n5_; have NB102_101 := n6_; clear n0_ n1_ n2_ n3_ n4_ n5_ n6_; clear hb hbox hg) | ((with_reducible refine gate_dst (N := 7) rfl ?_); refine box_event ?hg (N := 7) ?hd (cs := #[.int .i64 a3_0, .int .i64 a3_1, .bool a3_2, .bool a3_3, .bool a3_4, .bool a3_5, .bool a3_6, .bool a3_7, .bool a3_8, .bool a3_9, .bool a3_10, .bool a3_11, .bool a3_12, .bool a3_13, .bool a3_14, .bool a3_15, .bool a3_16, .bool a3_17, .int .i64 a3_18, .int .i64 a3_19, .int .i64 a3_20]) (t := 27) ?hr ?_; (case hd => rfl); (case hg => rfl); (case hr => first | (go_simp; done) | (go_simp; rfl)); intro gb103 hg w9 hbox hb; have n0_ := Aside0.mk (blk_below (g := gb101) (o := .cells #[.string a0_0, .int .i64 a0_1, .int .i64 a0_2, .int .i64 a0_3, .int .i64 a0_4, .int .i64 a0_5, .int .i64 a0_6, .int .i64 a0_7, .string a0_8, .string a0_9, .int .i64 a0_10] 25 (0, 0)) (by (with_reducible repeat (first | refine blk_drewN ?_ _ | refine blk_drew ?_ | refine blk_alloc ?_ _)); exact BK101.out) hb); have n1_ := Aside0.mk (blk_below (g := gb102) (o := .cells #[.string a1_0, .int .i64 a1_1, .int .i64 a1_2, .int .i64 a1_3, .int .i64 a1_4, .int .i64 a1_5, .int .i64 a1_6, .int .i64 a1_7, .string a1_8, .string a1_9, .int .i64 a1_10] 25 (0, 0)) (by (with_reducible repeat (first | refine blk_drewN ?_ _ | refine blk_drew ?_ | refine blk_alloc ?_ _)); exact BK102.out) hb); have n2_ := Aside0.mk (below_step (by repeat (first | (with_reducible first | exact HB.out | apply below_alloc | apply pw_below_drewN | apply below_drew1 | refine below_set ?_ GE101.out | refine below_set ?_ GE102.out) | exact HB.out)) hb); have n3_ := Aside0.mk (hbox); have n4_ := Aside0.mk ((by rw [hg]; exact (below_size (by repeat (first | (with_reducible first | exact HB.out | apply below_alloc | apply pw_below_drewN | apply below_drew1 | refine below_set ?_ GE101.out | refine below_set ?_ GE102.out) | exact HB.out))) : w.heap.size ≤ gb103)); have n5_ := Aside0.mk ((by rw [hg]; exact (below_size (by repeat (first | (with_reducible first | exact HB.out | apply below_alloc | apply pw_below_drewN | apply below_drew1 | refine below_set ?_ GE101.out | refine below_set ?_ GE102.out) | exact HB.out))) : w.heap.size ≤ gb103)); have n6_ := Aside0.mk ((by rw [hg]; exact Nat.ne_of_lt (blk_lt (g := gb101) (o := .cells #[.string a0_0, .int .i64 a0_1, .int .i64 a0_2, .int .i64 a0_3, .int .i64 a0_4, .int .i64 a0_5, .int .i64 a0_6, .int .i64 a0_7, .string a0_8, .string a0_9, .int .i64 a0_10] 25 (0, 0)) (by (with_reducible repeat (first | refine blk_drewN ?_ _ | refine blk_drew ?_ | refine blk_alloc ?_ _)); exact BK101.out)) : gb101 ≠ gb103)); have n7_ := Aside0.mk ((by rw [hg]; exact Nat.ne_of_gt (blk_lt (g := gb101) (o := .cells #[.string a0_0, .int .i64 a0_1, .int .i64 a0_2, .int .i64 a0_3, .int .i64 a0_4, .int .i64 a0_5, .int .i64 a0_6, .int .i64 a0_7, .string a0_8, .string a0_9, .int .i64 a0_10] 25 (0, 0)) (by (with_reducible repeat (first | refine blk_drewN ?_ _ | refine blk_drew ?_ | refine blk_alloc ?_ _)); exact BK101.out)) : gb103 ≠ gb101)); have n8_ := Aside0.mk ((by rw [hg]; exact Nat.ne_of_lt (blk_lt (g := gb102) (o := .cells #[.string a1_0, .int .i64 a1_1, .int .i64 a1_2, .int .i64 a1_3, .int .i64 a1_4, .int .i64 a1_5, .int .i64 a1_6, .int .i64 a1_7, .string a1_8, .string a1_9, .int .i64 a1_10] 25 (0, 0)) (by (with_reducible repeat (first | refine blk_drewN ?_ _ | refine blk_drew ?_ | refine blk_alloc ?_ _)); exact BK102.out)) : gb102 ≠ gb103)); have n9_ := Aside0.mk ((by rw [hg]; exact Nat.ne_of_gt (blk_lt (g := gb102) (o := .cells #[.string a1_0, .int .i64 a1_1, .int .i64 a1_2, .int .i64 a1_3, .int .i64 a1_4, .int .i64 a1_5, .int .i64 a1_6, .int .i64 a1_7, .string a1_8, .string a1_9, .int .i64 a1_10] 25 (0, 0)) (by (with_reducible repeat (first | refine blk_drewN ?_ _ | refine blk_drew ?_ | refine blk_alloc ?_ _)); exact BK102.out)) : gb103 ≠ gb102)); clear BK101; clear BK102; clear HB; have BK101 := n0_; have BK102 := n1_; have HB := n2_; have BK103 := n3_; have GW103 := n4_; have GE103 := n5_; have NB101_103 := n6_; have NB103_101 := n7_; have NB102_103 := n8_; have NB103_102 := n9_; clear n0_ n1_ n2_ n3_ n4_ n5_ n6_ n7_ n8_ n9_; clear hb hbox hg))
    (try simp only [Act.put, List.setIfInBounds_toArray, List.set_cons_zero, List.set_cons_succ])
    go_cut [24] (fun v24 wc => ∃ (kq : Nat) (x24_5 : Bool), v24 = .bool x24_5 ∧ Aside0 (remoraref21_Skips.j0 kq x24_5 a0_0 a0_1 a0_2 a0_3 a0_4 a0_5 a0_6 a0_7 a0_8 a0_9 a0_10 a1_0 a1_1 a1_2 a1_3 a1_4 a1_5 a1_6 a1_7 a1_8 a1_9 a1_10 a3_0 a3_1 a3_2 a3_3 a3_4 a3_5 a3_6 a3_7 a3_8 a3_9 a3_10 a3_11 a3_12 a3_13 a3_14 a3_15 a3_16 a3_17 a3_18 a3_19 a3_20 = some r) ∧ Aside0 (kq ≤ k) ∧ Aside0 (wc.heap[gb101]? = some (.cells #[.string a0_0, .int .i64 a0_1, .int .i64 a0_2, .int .i64 a0_3, .int .i64 a0_4, .int .i64 a0_5, .int .i64 a0_6, .int .i64 a0_7, .string a0_8, .string a0_9, .int .i64 a0_10] 25 (0, 0))) ∧ Aside0 (wc.heap[gb102]? = some (.cells #[.string a1_0, .int .i64 a1_1, .int .i64 a1_2, .int .i64 a1_3, .int .i64 a1_4, .int .i64 a1_5, .int .i64 a1_6, .int .i64 a1_7, .string a1_8, .string a1_9, .int .i64 a1_10] 25 (0, 0))) ∧ Aside0 (wc.heap[gb103]? = some (.cells #[.int .i64 a3_0, .int .i64 a3_1, .bool a3_2, .bool a3_3, .bool a3_4, .bool a3_5, .bool a3_6, .bool a3_7, .bool a3_8, .bool a3_9, .bool a3_10, .bool a3_11, .bool a3_12, .bool a3_13, .bool a3_14, .bool a3_15, .bool a3_16, .bool a3_17, .int .i64 a3_18, .int .i64 a3_19, .int .i64 a3_20] 27 (0, 0))) ∧ Aside0 (Below w.heap.size w wc))
    case first =>
      have H := HC6.out
      clear HC6
      by_cases c10 : a3_6 = true
      · subst c10
        have H1 : (if a0_1 = 2 then (remoraref21_Skips.j0 k (a1_1 != 2) a0_0 a0_1 a0_2 a0_3 a0_4 a0_5 a0_6 a0_7 a0_8 a0_9 a0_10 a1_0 a1_1 a1_2 a1_3 a1_4 a1_5 a1_6 a1_7 a1_8 a1_9 a1_10 a3_0 a3_1 a3_2 a3_3 a3_4 a3_5 true a3_7 a3_8 a3_9 a3_10 a3_11 a3_12 a3_13 a3_14 a3_15 a3_16 a3_17 a3_18 a3_19 a3_20) else (remoraref21_Skips.j0 k true a0_0 a0_1 a0_2 a0_3 a0_4 a0_5 a0_6 a0_7 a0_8 a0_9 a0_10 a1_0 a1_1 a1_2 a1_3 a1_4 a1_5 a1_6 a1_7 a1_8 a1_9 a1_10 a3_0 a3_1 a3_2 a3_3 a3_4 a3_5 true a3_7 a3_8 a3_9 a3_10 a3_11 a3_12 a3_13 a3_14 a3_15 a3_16 a3_17 a3_18 a3_19 a3_20)) = some r := by rw [if_pos rfl] at H; exact H
        clear H
        have H := H1
        clear H1
        by_cases c11 : a0_1 = 2
        · rw [if_pos c11] at H
          have c11b0 : (a0_1 == 2) = true := beq_iff_eq.mpr c11
          have c11b1 : (a0_1 != 2) = false := bne_eq_false_iff_eq.mpr c11
          clear c11
          (first | rw [c11b0] | (simp only [i64_w, i32_w]; rw [c11b0]) | skip)
          have H' := Aside0.mk H
          clear H
          have hnb12 := NB103_101.out
          have hnc12 := NB101_103.out
          have hnb13 := NB103_102.out
          have hnc13 := NB102_103.out
          have hcz14_0 : w9.cell? ⟨gb103, 0, none⟩ = some (.int .i64 a3_0) := (blk_cell BK103.out 0).trans rfl
          have hcz14_1 : w9.cell? ⟨gb103, 1, none⟩ = some (.int .i64 a3_1) := (blk_cell BK103.out 1).trans rfl
          have hcz14_2 : w9.cell? ⟨gb103, 2, none⟩ = some (.bool a3_2) := (blk_cell BK103.out 2).trans rfl
          have hcz14_3 : w9.cell? ⟨gb103, 3, none⟩ = some (.bool a3_3) := (blk_cell BK103.out 3).trans rfl
          have hcz14_4 : w9.cell? ⟨gb103, 4, none⟩ = some (.bool a3_4) := (blk_cell BK103.out 4).trans rfl
          have hcz14_5 : w9.cell? ⟨gb103, 5, none⟩ = some (.bool a3_5) := (blk_cell BK103.out 5).trans rfl
          have hcz14_6 : w9.cell? ⟨gb103, 6, none⟩ = some (.bool true) := (blk_cell BK103.out 6).trans rfl
          have hcz14_7 : w9.cell? ⟨gb103, 7, none⟩ = some (.bool a3_7) := (blk_cell BK103.out 7).trans rfl
          have hcz14_8 : w9.cell? ⟨gb103, 8, none⟩ = some (.bool a3_8) := (blk_cell BK103.out 8).trans rfl
          have hcz14_9 : w9.cell? ⟨gb103, 9, none⟩ = some (.bool a3_9) := (blk_cell BK103.out 9).trans rfl
          have hcz14_10 : w9.cell? ⟨gb103, 10, none⟩ = some (.bool a3_10) := (blk_cell BK103.out 10).trans rfl
          have hcz14_11 : w9.cell? ⟨gb103, 11, none⟩ = some (.bool a3_11) := (blk_cell BK103.out 11).trans rfl
          have hcz14_12 : w9.cell? ⟨gb103, 12, none⟩ = some (.bool a3_12) := (blk_cell BK103.out 12).trans rfl
          have hcz14_13 : w9.cell? ⟨gb103, 13, none⟩ = some (.bool a3_13) := (blk_cell BK103.out 13).trans rfl
          have hcz14_14 : w9.cell? ⟨gb103, 14, none⟩ = some (.bool a3_14) := (blk_cell BK103.out 14).trans rfl
          have hcz14_15 : w9.cell? ⟨gb103, 15, none⟩ = some (.bool a3_15) := (blk_cell BK103.out 15).trans rfl
          have hcz14_16 : w9.cell? ⟨gb103, 16, none⟩ = some (.bool a3_16) := (blk_cell BK103.out 16).trans rfl
          have hcz14_17 : w9.cell? ⟨gb103, 17, none⟩ = some (.bool a3_17) := (blk_cell BK103.out 17).trans rfl
          have hcz14_18 : w9.cell? ⟨gb103, 18, none⟩ = some (.int .i64 a3_18) := (blk_cell BK103.out 18).trans rfl
          have hcz14_19 : w9.cell? ⟨gb103, 19, none⟩ = some (.int .i64 a3_19) := (blk_cell BK103.out 19).trans rfl
          have hcz14_20 : w9.cell? ⟨gb103, 20, none⟩ = some (.int .i64 a3_20) := (blk_cell BK103.out 20).trans rfl
          have hfz14_0 := blk_frozen BK103.out 0
          have hfz14_1 := blk_frozen BK103.out 1
          have hfz14_2 := blk_frozen BK103.out 2
          have hfz14_3 := blk_frozen BK103.out 3
          have hfz14_4 := blk_frozen BK103.out 4
          have hfz14_5 := blk_frozen BK103.out 5
          have hfz14_6 := blk_frozen BK103.out 6
          have hfz14_7 := blk_frozen BK103.out 7
          have hfz14_8 := blk_frozen BK103.out 8
          have hfz14_9 := blk_frozen BK103.out 9
          have hfz14_10 := blk_frozen BK103.out 10
          have hfz14_11 := blk_frozen BK103.out 11
          have hfz14_12 := blk_frozen BK103.out 12
          have hfz14_13 := blk_frozen BK103.out 13
          have hfz14_14 := blk_frozen BK103.out 14
          have hfz14_15 := blk_frozen BK103.out 15
          have hfz14_16 := blk_frozen BK103.out 16
          have hfz14_17 := blk_frozen BK103.out 17
          have hfz14_18 := blk_frozen BK103.out 18
          have hfz14_19 := blk_frozen BK103.out 19
          have hfz14_20 := blk_frozen BK103.out 20
          have hnb15 := NB101_102.out
          have hnc15 := NB102_101.out
          have hcz16_0 : w9.cell? ⟨gb101, 0, none⟩ = some (.string a0_0) := (blk_cell BK101.out 0).trans rfl
          have hcz16_1 : w9.cell? ⟨gb101, 1, none⟩ = some (.int .i64 a0_1) := (blk_cell BK101.out 1).trans rfl
          have hcz16_2 : w9.cell? ⟨gb101, 2, none⟩ = some (.int .i64 a0_2) := (blk_cell BK101.out 2).trans rfl
          have hcz16_3 : w9.cell? ⟨gb101, 3, none⟩ = some (.int .i64 a0_3) := (blk_cell BK101.out 3).trans rfl
          have hcz16_4 : w9.cell? ⟨gb101, 4, none⟩ = some (.int .i64 a0_4) := (blk_cell BK101.out 4).trans rfl
          have hcz16_5 : w9.cell? ⟨gb101, 5, none⟩ = some (.int .i64 a0_5) := (blk_cell BK101.out 5).trans rfl
          have hcz16_6 : w9.cell? ⟨gb101, 6, none⟩ = some (.int .i64 a0_6) := (blk_cell BK101.out 6).trans rfl
          have hcz16_7 : w9.cell? ⟨gb101, 7, none⟩ = some (.int .i64 a0_7) := (blk_cell BK101.out 7).trans rfl
          have hcz16_8 : w9.cell? ⟨gb101, 8, none⟩ = some (.string a0_8) := (blk_cell BK101.out 8).trans rfl
          have hcz16_9 : w9.cell? ⟨gb101, 9, none⟩ = some (.string a0_9) := (blk_cell BK101.out 9).trans rfl
          have hcz16_10 : w9.cell? ⟨gb101, 10, none⟩ = some (.int .i64 a0_10) := (blk_cell BK101.out 10).trans rfl
          have hfz16_0 := blk_frozen BK101.out 0
          have hfz16_1 := blk_frozen BK101.out 1
          have hfz16_2 := blk_frozen BK101.out 2
          have hfz16_3 := blk_frozen BK101.out 3
          have hfz16_4 := blk_frozen BK101.out 4
          have hfz16_5 := blk_frozen BK101.out 5
          have hfz16_6 := blk_frozen BK101.out 6
          have hfz16_7 := blk_frozen BK101.out 7
          have hfz16_8 := blk_frozen BK101.out 8
          have hfz16_9 := blk_frozen BK101.out 9
          have hfz16_10 := blk_frozen BK101.out 10
          have hcz17_0 : w9.cell? ⟨gb102, 0, none⟩ = some (.string a1_0) := (blk_cell BK102.out 0).trans rfl
          have hcz17_1 : w9.cell? ⟨gb102, 1, none⟩ = some (.int .i64 a1_1) := (blk_cell BK102.out 1).trans rfl
          have hcz17_2 : w9.cell? ⟨gb102, 2, none⟩ = some (.int .i64 a1_2) := (blk_cell BK102.out 2).trans rfl
          have hcz17_3 : w9.cell? ⟨gb102, 3, none⟩ = some (.int .i64 a1_3) := (blk_cell BK102.out 3).trans rfl
          have hcz17_4 : w9.cell? ⟨gb102, 4, none⟩ = some (.int .i64 a1_4) := (blk_cell BK102.out 4).trans rfl
          have hcz17_5 : w9.cell? ⟨gb102, 5, none⟩ = some (.int .i64 a1_5) := (blk_cell BK102.out 5).trans rfl
          have hcz17_6 : w9.cell? ⟨gb102, 6, none⟩ = some (.int .i64 a1_6) := (blk_cell BK102.out 6).trans rfl
          have hcz17_7 : w9.cell? ⟨gb102, 7, none⟩ = some (.int .i64 a1_7) := (blk_cell BK102.out 7).trans rfl
          have hcz17_8 : w9.cell? ⟨gb102, 8, none⟩ = some (.string a1_8) := (blk_cell BK102.out 8).trans rfl
          have hcz17_9 : w9.cell? ⟨gb102, 9, none⟩ = some (.string a1_9) := (blk_cell BK102.out 9).trans rfl
          have hcz17_10 : w9.cell? ⟨gb102, 10, none⟩ = some (.int .i64 a1_10) := (blk_cell BK102.out 10).trans rfl
          have hfz17_0 := blk_frozen BK102.out 0
          have hfz17_1 := blk_frozen BK102.out 1
          have hfz17_2 := blk_frozen BK102.out 2
          have hfz17_3 := blk_frozen BK102.out 3
          have hfz17_4 := blk_frozen BK102.out 4
          have hfz17_5 := blk_frozen BK102.out 5
          have hfz17_6 := blk_frozen BK102.out 6
          have hfz17_7 := blk_frozen BK102.out 7
          have hfz17_8 := blk_frozen BK102.out 8
          have hfz17_9 := blk_frozen BK102.out 9
          have hfz17_10 := blk_frozen BK102.out 10
          go_wp2
          go_meet
          case rel => exact ⟨_, ((a1_1 != 2)), (by first | rfl | (simp; done) | (simp [*]; done)), H', ⟨by first | omega | exact Nat.le_refl _⟩, ⟨by (with_reducible repeat (first | refine blk_drewN ?_ _ | refine blk_drew ?_ | refine blk_alloc ?_ _)); exact BK101.out⟩, ⟨by (with_reducible repeat (first | refine blk_drewN ?_ _ | refine blk_drew ?_ | refine blk_alloc ?_ _)); exact BK102.out⟩, ⟨by (with_reducible repeat (first | refine blk_drewN ?_ _ | refine blk_drew ?_ | refine blk_alloc ?_ _)); exact BK103.out⟩, ⟨by repeat (first | (with_reducible first | exact HB.out | apply below_alloc | apply pw_below_drewN | apply below_drew1 | refine below_set ?_ GE101.out | refine below_set ?_ GE102.out | refine below_set ?_ GE103.out) | exact HB.out)⟩⟩
        · rw [if_neg c11] at H
          have c11b0 : (a0_1 == 2) = false := beq_eq_false_iff_ne.mpr c11
          have c11b1 : (a0_1 != 2) = true := bne_iff_ne.mpr c11
          (first | rw [c11b0] | (simp only [i64_w, i32_w]; rw [c11b0]) | skip)
          have H' := Aside0.mk H
          clear H
          have hnb18 := NB103_101.out
          have hnc18 := NB101_103.out
          have hnb19 := NB103_102.out
          have hnc19 := NB102_103.out
          have hcz20_0 : w9.cell? ⟨gb103, 0, none⟩ = some (.int .i64 a3_0) := (blk_cell BK103.out 0).trans rfl
          have hcz20_1 : w9.cell? ⟨gb103, 1, none⟩ = some (.int .i64 a3_1) := (blk_cell BK103.out 1).trans rfl
          have hcz20_2 : w9.cell? ⟨gb103, 2, none⟩ = some (.bool a3_2) := (blk_cell BK103.out 2).trans rfl
          have hcz20_3 : w9.cell? ⟨gb103, 3, none⟩ = some (.bool a3_3) := (blk_cell BK103.out 3).trans rfl
          have hcz20_4 : w9.cell? ⟨gb103, 4, none⟩ = some (.bool a3_4) := (blk_cell BK103.out 4).trans rfl
          have hcz20_5 : w9.cell? ⟨gb103, 5, none⟩ = some (.bool a3_5) := (blk_cell BK103.out 5).trans rfl
          have hcz20_6 : w9.cell? ⟨gb103, 6, none⟩ = some (.bool true) := (blk_cell BK103.out 6).trans rfl
          have hcz20_7 : w9.cell? ⟨gb103, 7, none⟩ = some (.bool a3_7) := (blk_cell BK103.out 7).trans rfl
          have hcz20_8 : w9.cell? ⟨gb103, 8, none⟩ = some (.bool a3_8) := (blk_cell BK103.out 8).trans rfl
          have hcz20_9 : w9.cell? ⟨gb103, 9, none⟩ = some (.bool a3_9) := (blk_cell BK103.out 9).trans rfl
          have hcz20_10 : w9.cell? ⟨gb103, 10, none⟩ = some (.bool a3_10) := (blk_cell BK103.out 10).trans rfl
          have hcz20_11 : w9.cell? ⟨gb103, 11, none⟩ = some (.bool a3_11) := (blk_cell BK103.out 11).trans rfl
          have hcz20_12 : w9.cell? ⟨gb103, 12, none⟩ = some (.bool a3_12) := (blk_cell BK103.out 12).trans rfl
          have hcz20_13 : w9.cell? ⟨gb103, 13, none⟩ = some (.bool a3_13) := (blk_cell BK103.out 13).trans rfl
          have hcz20_14 : w9.cell? ⟨gb103, 14, none⟩ = some (.bool a3_14) := (blk_cell BK103.out 14).trans rfl
          have hcz20_15 : w9.cell? ⟨gb103, 15, none⟩ = some (.bool a3_15) := (blk_cell BK103.out 15).trans rfl
          have hcz20_16 : w9.cell? ⟨gb103, 16, none⟩ = some (.bool a3_16) := (blk_cell BK103.out 16).trans rfl
          have hcz20_17 : w9.cell? ⟨gb103, 17, none⟩ = some (.bool a3_17) := (blk_cell BK103.out 17).trans rfl
          have hcz20_18 : w9.cell? ⟨gb103, 18, none⟩ = some (.int .i64 a3_18) := (blk_cell BK103.out 18).trans rfl
          have hcz20_19 : w9.cell? ⟨gb103, 19, none⟩ = some (.int .i64 a3_19) := (blk_cell BK103.out 19).trans rfl
          have hcz20_20 : w9.cell? ⟨gb103, 20, none⟩ = some (.int .i64 a3_20) := (blk_cell BK103.out 20).trans rfl
          have hfz20_0 := blk_frozen BK103.out 0
          have hfz20_1 := blk_frozen BK103.out 1
          have hfz20_2 := blk_frozen BK103.out 2
          have hfz20_3 := blk_frozen BK103.out 3
          have hfz20_4 := blk_frozen BK103.out 4
          have hfz20_5 := blk_frozen BK103.out 5
          have hfz20_6 := blk_frozen BK103.out 6
          have hfz20_7 := blk_frozen BK103.out 7
          have hfz20_8 := blk_frozen BK103.out 8
          have hfz20_9 := blk_frozen BK103.out 9
          have hfz20_10 := blk_frozen BK103.out 10
          have hfz20_11 := blk_frozen BK103.out 11
          have hfz20_12 := blk_frozen BK103.out 12
          have hfz20_13 := blk_frozen BK103.out 13
          have hfz20_14 := blk_frozen BK103.out 14
          have hfz20_15 := blk_frozen BK103.out 15
          have hfz20_16 := blk_frozen BK103.out 16
          have hfz20_17 := blk_frozen BK103.out 17
          have hfz20_18 := blk_frozen BK103.out 18
          have hfz20_19 := blk_frozen BK103.out 19
          have hfz20_20 := blk_frozen BK103.out 20
          have hnb21 := NB101_102.out
          have hnc21 := NB102_101.out
          have hcz22_0 : w9.cell? ⟨gb101, 0, none⟩ = some (.string a0_0) := (blk_cell BK101.out 0).trans rfl
          have hcz22_1 : w9.cell? ⟨gb101, 1, none⟩ = some (.int .i64 a0_1) := (blk_cell BK101.out 1).trans rfl
          have hcz22_2 : w9.cell? ⟨gb101, 2, none⟩ = some (.int .i64 a0_2) := (blk_cell BK101.out 2).trans rfl
          have hcz22_3 : w9.cell? ⟨gb101, 3, none⟩ = some (.int .i64 a0_3) := (blk_cell BK101.out 3).trans rfl
          have hcz22_4 : w9.cell? ⟨gb101, 4, none⟩ = some (.int .i64 a0_4) := (blk_cell BK101.out 4).trans rfl
          have hcz22_5 : w9.cell? ⟨gb101, 5, none⟩ = some (.int .i64 a0_5) := (blk_cell BK101.out 5).trans rfl
          have hcz22_6 : w9.cell? ⟨gb101, 6, none⟩ = some (.int .i64 a0_6) := (blk_cell BK101.out 6).trans rfl
          have hcz22_7 : w9.cell? ⟨gb101, 7, none⟩ = some (.int .i64 a0_7) := (blk_cell BK101.out 7).trans rfl
          have hcz22_8 : w9.cell? ⟨gb101, 8, none⟩ = some (.string a0_8) := (blk_cell BK101.out 8).trans rfl
          have hcz22_9 : w9.cell? ⟨gb101, 9, none⟩ = some (.string a0_9) := (blk_cell BK101.out 9).trans rfl
          have hcz22_10 : w9.cell? ⟨gb101, 10, none⟩ = some (.int .i64 a0_10) := (blk_cell BK101.out 10).trans rfl
          have hfz22_0 := blk_frozen BK101.out 0
          have hfz22_1 := blk_frozen BK101.out 1
          have hfz22_2 := blk_frozen BK101.out 2
          have hfz22_3 := blk_frozen BK101.out 3
          have hfz22_4 := blk_frozen BK101.out 4
          have hfz22_5 := blk_frozen BK101.out 5
          have hfz22_6 := blk_frozen BK101.out 6
          have hfz22_7 := blk_frozen BK101.out 7
          have hfz22_8 := blk_frozen BK101.out 8
          have hfz22_9 := blk_frozen BK101.out 9
          have hfz22_10 := blk_frozen BK101.out 10
          go_wp2
          go_meet
          case rel => exact ⟨_, (true), (by first | rfl | (simp; done) | (simp [*]; done)), H', ⟨by first | omega | exact Nat.le_refl _⟩, ⟨by (with_reducible repeat (first | refine blk_drewN ?_ _ | refine blk_drew ?_ | refine blk_alloc ?_ _)); exact BK101.out⟩, ⟨by (with_reducible repeat (first | refine blk_drewN ?_ _ | refine blk_drew ?_ | refine blk_alloc ?_ _)); exact BK102.out⟩, ⟨by (with_reducible repeat (first | refine blk_drewN ?_ _ | refine blk_drew ?_ | refine blk_alloc ?_ _)); exact BK103.out⟩, ⟨by repeat (first | (with_reducible first | exact HB.out | apply below_alloc | apply pw_below_drewN | apply below_drew1 | refine below_set ?_ GE101.out | refine below_set ?_ GE102.out | refine below_set ?_ GE103.out) | exact HB.out)⟩⟩
      · replace c10 := Bool.eq_false_iff.mpr c10
        subst c10
        have H1 : (remoraref21_Skips.j0 k false a0_0 a0_1 a0_2 a0_3 a0_4 a0_5 a0_6 a0_7 a0_8 a0_9 a0_10 a1_0 a1_1 a1_2 a1_3 a1_4 a1_5 a1_6 a1_7 a1_8 a1_9 a1_10 a3_0 a3_1 a3_2 a3_3 a3_4 a3_5 false a3_7 a3_8 a3_9 a3_10 a3_11 a3_12 a3_13 a3_14 a3_15 a3_16 a3_17 a3_18 a3_19 a3_20) = some r := by rw [if_neg (show ¬ (false = true) by decide)] at H; exact H
        clear H
        have H := H1
        clear H1
        have H' := Aside0.mk H
        clear H
        have hnb23 := NB103_101.out
        have hnc23 := NB101_103.out
        have hnb24 := NB103_102.out
        have hnc24 := NB102_103.out
        have hcz25_0 : w9.cell? ⟨gb103, 0, none⟩ = some (.int .i64 a3_0) := (blk_cell BK103.out 0).trans rfl
        have hcz25_1 : w9.cell? ⟨gb103, 1, none⟩ = some (.int .i64 a3_1) := (blk_cell BK103.out 1).trans rfl
        have hcz25_2 : w9.cell? ⟨gb103, 2, none⟩ = some (.bool a3_2) := (blk_cell BK103.out 2).trans rfl
        have hcz25_3 : w9.cell? ⟨gb103, 3, none⟩ = some (.bool a3_3) := (blk_cell BK103.out 3).trans rfl
        have hcz25_4 : w9.cell? ⟨gb103, 4, none⟩ = some (.bool a3_4) := (blk_cell BK103.out 4).trans rfl
        have hcz25_5 : w9.cell? ⟨gb103, 5, none⟩ = some (.bool a3_5) := (blk_cell BK103.out 5).trans rfl
        have hcz25_6 : w9.cell? ⟨gb103, 6, none⟩ = some (.bool false) := (blk_cell BK103.out 6).trans rfl
        have hcz25_7 : w9.cell? ⟨gb103, 7, none⟩ = some (.bool a3_7) := (blk_cell BK103.out 7).trans rfl
        have hcz25_8 : w9.cell? ⟨gb103, 8, none⟩ = some (.bool a3_8) := (blk_cell BK103.out 8).trans rfl
        have hcz25_9 : w9.cell? ⟨gb103, 9, none⟩ = some (.bool a3_9) := (blk_cell BK103.out 9).trans rfl
        have hcz25_10 : w9.cell? ⟨gb103, 10, none⟩ = some (.bool a3_10) := (blk_cell BK103.out 10).trans rfl
        have hcz25_11 : w9.cell? ⟨gb103, 11, none⟩ = some (.bool a3_11) := (blk_cell BK103.out 11).trans rfl
        have hcz25_12 : w9.cell? ⟨gb103, 12, none⟩ = some (.bool a3_12) := (blk_cell BK103.out 12).trans rfl
        have hcz25_13 : w9.cell? ⟨gb103, 13, none⟩ = some (.bool a3_13) := (blk_cell BK103.out 13).trans rfl
        have hcz25_14 : w9.cell? ⟨gb103, 14, none⟩ = some (.bool a3_14) := (blk_cell BK103.out 14).trans rfl
        have hcz25_15 : w9.cell? ⟨gb103, 15, none⟩ = some (.bool a3_15) := (blk_cell BK103.out 15).trans rfl
        have hcz25_16 : w9.cell? ⟨gb103, 16, none⟩ = some (.bool a3_16) := (blk_cell BK103.out 16).trans rfl
        have hcz25_17 : w9.cell? ⟨gb103, 17, none⟩ = some (.bool a3_17) := (blk_cell BK103.out 17).trans rfl
        have hcz25_18 : w9.cell? ⟨gb103, 18, none⟩ = some (.int .i64 a3_18) := (blk_cell BK103.out 18).trans rfl
        have hcz25_19 : w9.cell? ⟨gb103, 19, none⟩ = some (.int .i64 a3_19) := (blk_cell BK103.out 19).trans rfl
        have hcz25_20 : w9.cell? ⟨gb103, 20, none⟩ = some (.int .i64 a3_20) := (blk_cell BK103.out 20).trans rfl
        have hfz25_0 := blk_frozen BK103.out 0
        have hfz25_1 := blk_frozen BK103.out 1
        have hfz25_2 := blk_frozen BK103.out 2
        have hfz25_3 := blk_frozen BK103.out 3
        have hfz25_4 := blk_frozen BK103.out 4
        have hfz25_5 := blk_frozen BK103.out 5
        have hfz25_6 := blk_frozen BK103.out 6
        have hfz25_7 := blk_frozen BK103.out 7
        have hfz25_8 := blk_frozen BK103.out 8
        have hfz25_9 := blk_frozen BK103.out 9
        have hfz25_10 := blk_frozen BK103.out 10
        have hfz25_11 := blk_frozen BK103.out 11
        have hfz25_12 := blk_frozen BK103.out 12
        have hfz25_13 := blk_frozen BK103.out 13
        have hfz25_14 := blk_frozen BK103.out 14
        have hfz25_15 := blk_frozen BK103.out 15
        have hfz25_16 := blk_frozen BK103.out 16
        have hfz25_17 := blk_frozen BK103.out 17
        have hfz25_18 := blk_frozen BK103.out 18
        have hfz25_19 := blk_frozen BK103.out 19
        have hfz25_20 := blk_frozen BK103.out 20
        go_wp2
        go_meet
        case rel => exact ⟨_, (false), (by first | rfl | (simp; done) | (simp [*]; done)), H', ⟨by first | omega | exact Nat.le_refl _⟩, ⟨by (with_reducible repeat (first | refine blk_drewN ?_ _ | refine blk_drew ?_ | refine blk_alloc ?_ _)); exact BK101.out⟩, ⟨by (with_reducible repeat (first | refine blk_drewN ?_ _ | refine blk_drew ?_ | refine blk_alloc ?_ _)); exact BK102.out⟩, ⟨by (with_reducible repeat (first | refine blk_drewN ?_ _ | refine blk_drew ?_ | refine blk_alloc ?_ _)); exact BK103.out⟩, ⟨by repeat (first | (with_reducible first | exact HB.out | apply below_alloc | apply pw_below_drewN | apply below_drew1 | refine below_set ?_ GE101.out | refine below_set ?_ GE102.out | refine below_set ?_ GE103.out) | exact HB.out)⟩⟩
    case rest =>
      clear HC6
      try clear c1
      try clear c2
      try clear p2
      try clear c5
      try clear c10
      try clear c11
      try clear c11b0
      try clear c11b1
      try clear c12
      try clear c13
      try clear c15
      try clear c18
      try clear c19
      try clear c21
      try clear c23
      try clear c24
      try clear hcz14_0
      try clear hcz14_1
      try clear hcz14_10
      try clear hcz14_11
      try clear hcz14_12
      try clear hcz14_13
      try clear hcz14_14
      try clear hcz14_15
      try clear hcz14_16
      try clear hcz14_17
      try clear hcz14_18
      try clear hcz14_19
      try clear hcz14_2
      try clear hcz14_20
      try clear hcz14_3
      try clear hcz14_4
      try clear hcz14_5
      try clear hcz14_6
      try clear hcz14_7
      try clear hcz14_8
      try clear hcz14_9
      try clear hcz16_0
      try clear hcz16_1
      try clear hcz16_10
      try clear hcz16_2
      try clear hcz16_3
      try clear hcz16_4
      try clear hcz16_5
      try clear hcz16_6
      try clear hcz16_7
      try clear hcz16_8
      try clear hcz16_9
      try clear hcz17_0
      try clear hcz17_1
      try clear hcz17_10
      try clear hcz17_2
      try clear hcz17_3
      try clear hcz17_4
      try clear hcz17_5
      try clear hcz17_6
      try clear hcz17_7
      try clear hcz17_8
      try clear hcz17_9
      try clear hcz20_0
      try clear hcz20_1
      try clear hcz20_10
      try clear hcz20_11
      try clear hcz20_12
      try clear hcz20_13
      try clear hcz20_14
      try clear hcz20_15
      try clear hcz20_16
      try clear hcz20_17
      try clear hcz20_18
      try clear hcz20_19
      try clear hcz20_2
      try clear hcz20_20
      try clear hcz20_3
      try clear hcz20_4
      try clear hcz20_5
      try clear hcz20_6
      try clear hcz20_7
      try clear hcz20_8
      try clear hcz20_9
      try clear hcz22_0
      try clear hcz22_1
      try clear hcz22_10
      try clear hcz22_2
      try clear hcz22_3
      try clear hcz22_4
      try clear hcz22_5
      try clear hcz22_6
      try clear hcz22_7
      try clear hcz22_8
      try clear hcz22_9
      try clear hcz25_0
      try clear hcz25_1
      try clear hcz25_10
      try clear hcz25_11
      try clear hcz25_12
      try clear hcz25_13
      try clear hcz25_14
      try clear hcz25_15
      try clear hcz25_16
      try clear hcz25_17
      try clear hcz25_18
      try clear hcz25_19
      try clear hcz25_2
      try clear hcz25_20
      try clear hcz25_3
      try clear hcz25_4
      try clear hcz25_5
      try clear hcz25_6
      try clear hcz25_7
      try clear hcz25_8
      try clear hcz25_9
      try clear hfz14_0
      try clear hfz14_1
      try clear hfz14_10
      try clear hfz14_11
      try clear hfz14_12
      try clear hfz14_13
      try clear hfz14_14
      try clear hfz14_15
      try clear hfz14_16
      try clear hfz14_17
      try clear hfz14_18
      try clear hfz14_19
      try clear hfz14_2
      try clear hfz14_20
      try clear hfz14_3
      try clear hfz14_4
      try clear hfz14_5
      try clear hfz14_6
      try clear hfz14_7
      try clear hfz14_8
      try clear hfz14_9
      try clear hfz16_0
      try clear hfz16_1
      try clear hfz16_10
      try clear hfz16_2
      try clear hfz16_3
      try clear hfz16_4
      try clear hfz16_5
      try clear hfz16_6
      try clear hfz16_7
      try clear hfz16_8
      try clear hfz16_9
      try clear hfz17_0
      try clear hfz17_1
      try clear hfz17_10
      try clear hfz17_2
      try clear hfz17_3
      try clear hfz17_4
      try clear hfz17_5
      try clear hfz17_6
      try clear hfz17_7
      try clear hfz17_8
      try clear hfz17_9
      try clear hfz20_0
      try clear hfz20_1
      try clear hfz20_10
      try clear hfz20_11
      try clear hfz20_12
      try clear hfz20_13
      try clear hfz20_14
      try clear hfz20_15
      try clear hfz20_16
      try clear hfz20_17
      try clear hfz20_18
      try clear hfz20_19
      try clear hfz20_2
      try clear hfz20_20
      try clear hfz20_3
      try clear hfz20_4
      try clear hfz20_5
      try clear hfz20_6
      try clear hfz20_7
      try clear hfz20_8
      try clear hfz20_9
      try clear hfz22_0
      try clear hfz22_1
      try clear hfz22_10
      try clear hfz22_2
      try clear hfz22_3
      try clear hfz22_4
      try clear hfz22_5
      try clear hfz22_6
      try clear hfz22_7
      try clear hfz22_8
      try clear hfz22_9
      try clear hfz25_0
      try clear hfz25_1
      try clear hfz25_10
      try clear hfz25_11
      try clear hfz25_12
      try clear hfz25_13
      try clear hfz25_14
      try clear hfz25_15
      try clear hfz25_16
      try clear hfz25_17
      try clear hfz25_18
      try clear hfz25_19
      try clear hfz25_2
      try clear hfz25_20
      try clear hfz25_3
      try clear hfz25_4
      try clear hfz25_5
      try clear hfz25_6
      try clear hfz25_7
      try clear hfz25_8
      try clear hfz25_9
      obtain ⟨kq, x24_5, rfl, HA, HJ5, BK101, BK102, BK103, HB⟩ := hcut
      cases kq with
      | zero => exact absurd HA.out (by simp [remoraref21_Skips.j0])
      | succ kj5 =>
        have H := HA.out
        clear HA
        simp only [remoraref21_Skips.j0] at H
        by_cases c26 : x24_5 = true
        · subst c26
          have H1 : (some true) = some r := by rw [if_pos rfl] at H; exact H
          clear H
          have H := H1
          clear H1
          obtain rfl := Option.some.inj H
          go_wp2
          go_ret
          exact ⟨by first | rfl | (simp [errW_none, errW_some] <;> rfl) | (simp [*, errW_none, errW_some] <;> rfl), by repeat (first | (with_reducible first | exact HB.out | apply below_alloc | apply pw_below_drewN | apply below_drew1 | refine below_set ?_ GE101.out | refine below_set ?_ GE102.out | refine below_set ?_ GE103.out) | exact HB.out)⟩
        · replace c26 := Bool.eq_false_iff.mpr c26
          subst c26
          have H1 : (if a3_4 = true then (if a0_1 = 1 then (if a1_1 = 1 then ((remoraref21_later.f a1_3 a1_4 a1_5 a1_6 a1_7 a0_3 a0_4 a0_5 a0_6 a0_7).bind fun t104 => (if t104 = true then ((remoraref16_Near.f kj5 a0_3 a0_4 a0_5 a0_6 a0_7 a1_3 a1_4 a1_5 a1_6 a1_7 a3_18).bind fun t105 => (some (!t105))) else (some false))) else (some false)) else (some false)) else (some false)) = some r := by rw [if_neg (show ¬ (false = true) by decide)] at H; exact H
          clear H
          have H := H1
          clear H1
          by_cases c27 : a3_4 = true
          · subst c27
            have H1 : (if a0_1 = 1 then (if a1_1 = 1 then ((remoraref21_later.f a1_3 a1_4 a1_5 a1_6 a1_7 a0_3 a0_4 a0_5 a0_6 a0_7).bind fun t104 => (if t104 = true then ((remoraref16_Near.f kj5 a0_3 a0_4 a0_5 a0_6 a0_7 a1_3 a1_4 a1_5 a1_6 a1_7 a3_18).bind fun t105 => (some (!t105))) else (some false))) else (some false)) else (some false)) = some r := by rw [if_pos rfl] at H; exact H
            clear H
            have H := H1
            clear H1
            by_cases c28 : a0_1 = 1
            · rw [if_pos c28] at H
              have c28b0 : (a0_1 == 1) = true := beq_iff_eq.mpr c28
              have c28b1 : (a0_1 != 1) = false := bne_eq_false_iff_eq.mpr c28
              clear c28
              by_cases c29 : a1_1 = 1
              · rw [if_pos c29] at H
                have c29b0 : (a1_1 == 1) = true := beq_iff_eq.mpr c29
                have c29b1 : (a1_1 != 1) = false := bne_eq_false_iff_eq.mpr c29
                clear c29
                replace H := Option.bind_eq_some_iff.mp H
                obtain ⟨t104, A300, H⟩ := H
                replace H : (if t104 = true then ((remoraref16_Near.f kj5 a0_3 a0_4 a0_5 a0_6 a0_7 a1_3 a1_4 a1_5 a1_6 a1_7 a3_18).bind fun t105 => (some (!t105))) else (some false)) = some r := H
                have A30 := Aside0.mk A300
                clear A300
                by_cases c31 : t104 = true
                · subst c31
                  have H1 : ((remoraref16_Near.f kj5 a0_3 a0_4 a0_5 a0_6 a0_7 a1_3 a1_4 a1_5 a1_6 a1_7 a3_18).bind fun t105 => (some (!t105))) = some r := by rw [if_pos rfl] at H; exact H
                  clear H
                  have H := H1
                  clear H1
                  replace H := Option.bind_eq_some_iff.mp H
                  obtain ⟨t105, A320, H⟩ := H
                  replace H : (some (!t105)) = some r := H
                  have A32 := Aside0.mk A320
                  clear A320
                  obtain rfl := Option.some.inj H
                  have hnb33 := NB103_101.out
                  have hnc33 := NB101_103.out
                  have hnb34 := NB103_102.out
                  have hnc34 := NB102_103.out
                  have hcz35_0 : wc.cell? ⟨gb103, 0, none⟩ = some (.int .i64 a3_0) := (blk_cell BK103.out 0).trans rfl
                  have hcz35_1 : wc.cell? ⟨gb103, 1, none⟩ = some (.int .i64 a3_1) := (blk_cell BK103.out 1).trans rfl
                  have hcz35_2 : wc.cell? ⟨gb103, 2, none⟩ = some (.bool a3_2) := (blk_cell BK103.out 2).trans rfl
                  have hcz35_3 : wc.cell? ⟨gb103, 3, none⟩ = some (.bool a3_3) := (blk_cell BK103.out 3).trans rfl
                  have hcz35_4 : wc.cell? ⟨gb103, 4, none⟩ = some (.bool true) := (blk_cell BK103.out 4).trans rfl
                  have hcz35_5 : wc.cell? ⟨gb103, 5, none⟩ = some (.bool a3_5) := (blk_cell BK103.out 5).trans rfl
                  have hcz35_6 : wc.cell? ⟨gb103, 6, none⟩ = some (.bool a3_6) := (blk_cell BK103.out 6).trans rfl
                  have hcz35_7 : wc.cell? ⟨gb103, 7, none⟩ = some (.bool a3_7) := (blk_cell BK103.out 7).trans rfl
                  have hcz35_8 : wc.cell? ⟨gb103, 8, none⟩ = some (.bool a3_8) := (blk_cell BK103.out 8).trans rfl
                  have hcz35_9 : wc.cell? ⟨gb103, 9, none⟩ = some (.bool a3_9) := (blk_cell BK103.out 9).trans rfl
                  have hcz35_10 : wc.cell? ⟨gb103, 10, none⟩ = some (.bool a3_10) := (blk_cell BK103.out 10).trans rfl
                  have hcz35_11 : wc.cell? ⟨gb103, 11, none⟩ = some (.bool a3_11) := (blk_cell BK103.out 11).trans rfl
                  have hcz35_12 : wc.cell? ⟨gb103, 12, none⟩ = some (.bool a3_12) := (blk_cell BK103.out 12).trans rfl
                  have hcz35_13 : wc.cell? ⟨gb103, 13, none⟩ = some (.bool a3_13) := (blk_cell BK103.out 13).trans rfl
                  have hcz35_14 : wc.cell? ⟨gb103, 14, none⟩ = some (.bool a3_14) := (blk_cell BK103.out 14).trans rfl
                  have hcz35_15 : wc.cell? ⟨gb103, 15, none⟩ = some (.bool a3_15) := (blk_cell BK103.out 15).trans rfl
                  have hcz35_16 : wc.cell? ⟨gb103, 16, none⟩ = some (.bool a3_16) := (blk_cell BK103.out 16).trans rfl
                  have hcz35_17 : wc.cell? ⟨gb103, 17, none⟩ = some (.bool a3_17) := (blk_cell BK103.out 17).trans rfl
                  have hcz35_18 : wc.cell? ⟨gb103, 18, none⟩ = some (.int .i64 a3_18) := (blk_cell BK103.out 18).trans rfl
                  have hcz35_19 : wc.cell? ⟨gb103, 19, none⟩ = some (.int .i64 a3_19) := (blk_cell BK103.out 19).trans rfl
                  have hcz35_20 : wc.cell? ⟨gb103, 20, none⟩ = some (.int .i64 a3_20) := (blk_cell BK103.out 20).trans rfl
                  have hfz35_0 := blk_frozen BK103.out 0
                  have hfz35_1 := blk_frozen BK103.out 1
                  have hfz35_2 := blk_frozen BK103.out 2
                  have hfz35_3 := blk_frozen BK103.out 3
                  have hfz35_4 := blk_frozen BK103.out 4
                  have hfz35_5 := blk_frozen BK103.out 5
                  have hfz35_6 := blk_frozen BK103.out 6
                  have hfz35_7 := blk_frozen BK103.out 7
                  have hfz35_8 := blk_frozen BK103.out 8
                  have hfz35_9 := blk_frozen BK103.out 9
                  have hfz35_10 := blk_frozen BK103.out 10
                  have hfz35_11 := blk_frozen BK103.out 11
                  have hfz35_12 := blk_frozen BK103.out 12
                  have hfz35_13 := blk_frozen BK103.out 13
                  have hfz35_14 := blk_frozen BK103.out 14
                  have hfz35_15 := blk_frozen BK103.out 15
                  have hfz35_16 := blk_frozen BK103.out 16
                  have hfz35_17 := blk_frozen BK103.out 17
                  have hfz35_18 := blk_frozen BK103.out 18
                  have hfz35_19 := blk_frozen BK103.out 19
                  have hfz35_20 := blk_frozen BK103.out 20
                  have hnb36 := NB101_102.out
                  have hnc36 := NB102_101.out
                  have hcz37_0 : wc.cell? ⟨gb101, 0, none⟩ = some (.string a0_0) := (blk_cell BK101.out 0).trans rfl
                  have hcz37_1 : wc.cell? ⟨gb101, 1, none⟩ = some (.int .i64 a0_1) := (blk_cell BK101.out 1).trans rfl
                  have hcz37_2 : wc.cell? ⟨gb101, 2, none⟩ = some (.int .i64 a0_2) := (blk_cell BK101.out 2).trans rfl
                  have hcz37_3 : wc.cell? ⟨gb101, 3, none⟩ = some (.int .i64 a0_3) := (blk_cell BK101.out 3).trans rfl
                  have hcz37_4 : wc.cell? ⟨gb101, 4, none⟩ = some (.int .i64 a0_4) := (blk_cell BK101.out 4).trans rfl
                  have hcz37_5 : wc.cell? ⟨gb101, 5, none⟩ = some (.int .i64 a0_5) := (blk_cell BK101.out 5).trans rfl
                  have hcz37_6 : wc.cell? ⟨gb101, 6, none⟩ = some (.int .i64 a0_6) := (blk_cell BK101.out 6).trans rfl
                  have hcz37_7 : wc.cell? ⟨gb101, 7, none⟩ = some (.int .i64 a0_7) := (blk_cell BK101.out 7).trans rfl
                  have hcz37_8 : wc.cell? ⟨gb101, 8, none⟩ = some (.string a0_8) := (blk_cell BK101.out 8).trans rfl
                  have hcz37_9 : wc.cell? ⟨gb101, 9, none⟩ = some (.string a0_9) := (blk_cell BK101.out 9).trans rfl
                  have hcz37_10 : wc.cell? ⟨gb101, 10, none⟩ = some (.int .i64 a0_10) := (blk_cell BK101.out 10).trans rfl
                  have hfz37_0 := blk_frozen BK101.out 0
                  have hfz37_1 := blk_frozen BK101.out 1
                  have hfz37_2 := blk_frozen BK101.out 2
                  have hfz37_3 := blk_frozen BK101.out 3
                  have hfz37_4 := blk_frozen BK101.out 4
                  have hfz37_5 := blk_frozen BK101.out 5
                  have hfz37_6 := blk_frozen BK101.out 6
                  have hfz37_7 := blk_frozen BK101.out 7
                  have hfz37_8 := blk_frozen BK101.out 8
                  have hfz37_9 := blk_frozen BK101.out 9
                  have hfz37_10 := blk_frozen BK101.out 10
                  have hcz38_0 : wc.cell? ⟨gb102, 0, none⟩ = some (.string a1_0) := (blk_cell BK102.out 0).trans rfl
                  have hcz38_1 : wc.cell? ⟨gb102, 1, none⟩ = some (.int .i64 a1_1) := (blk_cell BK102.out 1).trans rfl
                  have hcz38_2 : wc.cell? ⟨gb102, 2, none⟩ = some (.int .i64 a1_2) := (blk_cell BK102.out 2).trans rfl
                  have hcz38_3 : wc.cell? ⟨gb102, 3, none⟩ = some (.int .i64 a1_3) := (blk_cell BK102.out 3).trans rfl
                  have hcz38_4 : wc.cell? ⟨gb102, 4, none⟩ = some (.int .i64 a1_4) := (blk_cell BK102.out 4).trans rfl
                  have hcz38_5 : wc.cell? ⟨gb102, 5, none⟩ = some (.int .i64 a1_5) := (blk_cell BK102.out 5).trans rfl
                  have hcz38_6 : wc.cell? ⟨gb102, 6, none⟩ = some (.int .i64 a1_6) := (blk_cell BK102.out 6).trans rfl
                  have hcz38_7 : wc.cell? ⟨gb102, 7, none⟩ = some (.int .i64 a1_7) := (blk_cell BK102.out 7).trans rfl
                  have hcz38_8 : wc.cell? ⟨gb102, 8, none⟩ = some (.string a1_8) := (blk_cell BK102.out 8).trans rfl
                  have hcz38_9 : wc.cell? ⟨gb102, 9, none⟩ = some (.string a1_9) := (blk_cell BK102.out 9).trans rfl
                  have hcz38_10 : wc.cell? ⟨gb102, 10, none⟩ = some (.int .i64 a1_10) := (blk_cell BK102.out 10).trans rfl
                  have hfz38_0 := blk_frozen BK102.out 0
                  have hfz38_1 := blk_frozen BK102.out 1
                  have hfz38_2 := blk_frozen BK102.out 2
                  have hfz38_3 := blk_frozen BK102.out 3
                  have hfz38_4 := blk_frozen BK102.out 4
                  have hfz38_5 := blk_frozen BK102.out 5
                  have hfz38_6 := blk_frozen BK102.out 6
                  have hfz38_7 := blk_frozen BK102.out 7
                  have hfz38_8 := blk_frozen BK102.out 8
                  have hfz38_9 := blk_frozen BK102.out 9
                  have hfz38_10 := blk_frozen BK102.out 10
                  go_wp2_with (first | (go_at_call 27; (with_reducible refine (remoraref21_later.calls a1_3 a1_4 a1_5 a1_6 a1_7 a0_3 a0_4 a0_5 a0_6 a0_7 true _ A30.out).mono ?_); rintro e w39 ⟨rfl, hb⟩; have n0_ := Aside0.mk (blk_below (g := gb101) (o := .cells #[.string a0_0, .int .i64 a0_1, .int .i64 a0_2, .int .i64 a0_3, .int .i64 a0_4, .int .i64 a0_5, .int .i64 a0_6, .int .i64 a0_7, .string a0_8, .string a0_9, .int .i64 a0_10] 25 (0, 0)) (by (with_reducible repeat (first | refine blk_drewN ?_ _ | refine blk_drew ?_ | refine blk_alloc ?_ _)); exact BK101.out) hb); have n1_ := Aside0.mk (blk_below (g := gb102) (o := .cells #[.string a1_0, .int .i64 a1_1, .int .i64 a1_2, .int .i64 a1_3, .int .i64 a1_4, .int .i64 a1_5, .int .i64 a1_6, .int .i64 a1_7, .string a1_8, .string a1_9, .int .i64 a1_10] 25 (0, 0)) (by (with_reducible repeat (first | refine blk_drewN ?_ _ | refine blk_drew ?_ | refine blk_alloc ?_ _)); exact BK102.out) hb); have n2_ := Aside0.mk (blk_below (g := gb103) (o := .cells #[.int .i64 a3_0, .int .i64 a3_1, .bool a3_2, .bool a3_3, .bool true, .bool a3_5, .bool a3_6, .bool a3_7, .bool a3_8, .bool a3_9, .bool a3_10, .bool a3_11, .bool a3_12, .bool a3_13, .bool a3_14, .bool a3_15, .bool a3_16, .bool a3_17, .int .i64 a3_18, .int .i64 a3_19, .int .i64 a3_20] 27 (0, 0)) (by (with_reducible repeat (first | refine blk_drewN ?_ _ | refine blk_drew ?_ | refine blk_alloc ?_ _)); exact BK103.out) hb); have n3_ := Aside0.mk (below_step (by repeat (first | (with_reducible first | exact HB.out | apply below_alloc | apply pw_below_drewN | apply below_drew1 | refine below_set ?_ GE101.out | refine below_set ?_ GE102.out | refine below_set ?_ GE103.out) | exact HB.out)) hb); clear BK101; clear BK102; clear BK103; clear HB; have BK101 := n0_; have BK102 := n1_; have BK103 := n2_; have HB := n3_; clear n0_ n1_ n2_ n3_; (try clear hb); (try clear hb2); (try clear hk); (try clear hi); have hcz40_0 : w39.cell? ⟨gb101, 0, none⟩ = some (.string a0_0) := (blk_cell BK101.out 0).trans rfl; have hcz40_1 : w39.cell? ⟨gb101, 1, none⟩ = some (.int .i64 a0_1) := (blk_cell BK101.out 1).trans rfl; have hcz40_2 : w39.cell? ⟨gb101, 2, none⟩ = some (.int .i64 a0_2) := (blk_cell BK101.out 2).trans rfl; have hcz40_3 : w39.cell? ⟨gb101, 3, none⟩ = some (.int .i64 a0_3) := (blk_cell BK101.out 3).trans rfl; have hcz40_4 : w39.cell? ⟨gb101, 4, none⟩ = some (.int .i64 a0_4) := (blk_cell BK101.out 4).trans rfl; have hcz40_5 : w39.cell? ⟨gb101, 5, none⟩ = some (.int .i64 a0_5) := (blk_cell BK101.out 5).trans rfl; have hcz40_6 : w39.cell? ⟨gb101, 6, none⟩ = some (.int .i64 a0_6) := (blk_cell BK101.out 6).trans rfl; have hcz40_7 : w39.cell? ⟨gb101, 7, none⟩ = some (.int .i64 a0_7) := (blk_cell BK101.out 7).trans rfl; have hcz40_8 : w39.cell? ⟨gb101, 8, none⟩ = some (.string a0_8) := (blk_cell BK101.out 8).trans rfl; have hcz40_9 : w39.cell? ⟨gb101, 9, none⟩ = some (.string a0_9) := (blk_cell BK101.out 9).trans rfl; have hcz40_10 : w39.cell? ⟨gb101, 10, none⟩ = some (.int .i64 a0_10) := (blk_cell BK101.out 10).trans rfl; have hfz40_0 := blk_frozen BK101.out 0; have hfz40_1 := blk_frozen BK101.out 1; have hfz40_2 := blk_frozen BK101.out 2; have hfz40_3 := blk_frozen BK101.out 3; have hfz40_4 := blk_frozen BK101.out 4; have hfz40_5 := blk_frozen BK101.out 5; have hfz40_6 := blk_frozen BK101.out 6; have hfz40_7 := blk_frozen BK101.out 7; have hfz40_8 := blk_frozen BK101.out 8; have hfz40_9 := blk_frozen BK101.out 9; have hfz40_10 := blk_frozen BK101.out 10; have hcz41_0 : w39.cell? ⟨gb102, 0, none⟩ = some (.string a1_0) := (blk_cell BK102.out 0).trans rfl; have hcz41_1 : w39.cell? ⟨gb102, 1, none⟩ = some (.int .i64 a1_1) := (blk_cell BK102.out 1).trans rfl; have hcz41_2 : w39.cell? ⟨gb102, 2, none⟩ = some (.int .i64 a1_2) := (blk_cell BK102.out 2).trans rfl; have hcz41_3 : w39.cell? ⟨gb102, 3, none⟩ = some (.int .i64 a1_3) := (blk_cell BK102.out 3).trans rfl; have hcz41_4 : w39.cell? ⟨gb102, 4, none⟩ = some (.int .i64 a1_4) := (blk_cell BK102.out 4).trans rfl; have hcz41_5 : w39.cell? ⟨gb102, 5, none⟩ = some (.int .i64 a1_5) := (blk_cell BK102.out 5).trans rfl; have hcz41_6 : w39.cell? ⟨gb102, 6, none⟩ = some (.int .i64 a1_6) := (blk_cell BK102.out 6).trans rfl; have hcz41_7 : w39.cell? ⟨gb102, 7, none⟩ = some (.int .i64 a1_7) := (blk_cell BK102.out 7).trans rfl; have hcz41_8 : w39.cell? ⟨gb102, 8, none⟩ = some (.string a1_8) := (blk_cell BK102.out 8).trans rfl; have hcz41_9 : w39.cell? ⟨gb102, 9, none⟩ = some (.string a1_9) := (blk_cell BK102.out 9).trans rfl; have hcz41_10 : w39.cell? ⟨gb102, 10, none⟩ = some (.int .i64 a1_10) := (blk_cell BK102.out 10).trans rfl; have hfz41_0 := blk_frozen BK102.out 0; have hfz41_1 := blk_frozen BK102.out 1; have hfz41_2 := blk_frozen BK102.out 2; have hfz41_3 := blk_frozen BK102.out 3; have hfz41_4 := blk_frozen BK102.out 4; have hfz41_5 := blk_frozen BK102.out 5; have hfz41_6 := blk_frozen BK102.out 6; have hfz41_7 := blk_frozen BK102.out 7; have hfz41_8 := blk_frozen BK102.out 8; have hfz41_9 := blk_frozen BK102.out 9; have hfz41_10 := blk_frozen BK102.out 10; have hcz42_0 : w39.cell? ⟨gb103, 0, none⟩ = some (.int .i64 a3_0) := (blk_cell BK103.out 0).trans rfl; have hcz42_1 : w39.cell? ⟨gb103, 1, none⟩ = some (.int .i64 a3_1) := (blk_cell BK103.out 1).trans rfl; have hcz42_2 : w39.cell? ⟨gb103, 2, none⟩ = some (.bool a3_2) := (blk_cell BK103.out 2).trans rfl; have hcz42_3 : w39.cell? ⟨gb103, 3, none⟩ = some (.bool a3_3) := (blk_cell BK103.out 3).trans rfl; have hcz42_4 : w39.cell? ⟨gb103, 4, none⟩ = some (.bool true) := (blk_cell BK103.out 4).trans rfl; have hcz42_5 : w39.cell? ⟨gb103, 5, none⟩ = some (.bool a3_5) := (blk_cell BK103.out 5).trans rfl; have hcz42_6 : w39.cell? ⟨gb103, 6, none⟩ = some (.bool a3_6) := (blk_cell BK103.out 6).trans rfl; have hcz42_7 : w39.cell? ⟨gb103, 7, none⟩ = some (.bool a3_7) := (blk_cell BK103.out 7).trans rfl; have hcz42_8 : w39.cell? ⟨gb103, 8, none⟩ = some (.bool a3_8) := (blk_cell BK103.out 8).trans rfl; have hcz42_9 : w39.cell? ⟨gb103, 9, none⟩ = some (.bool a3_9) := (blk_cell BK103.out 9).trans rfl; have hcz42_10 : w39.cell? ⟨gb103, 10, none⟩ = some (.bool a3_10) := (blk_cell BK103.out 10).trans rfl; have hcz42_11 : w39.cell? ⟨gb103, 11, none⟩ = some (.bool a3_11) := (blk_cell BK103.out 11).trans rfl; have hcz42_12 : w39.cell? ⟨gb103, 12, none⟩ = some (.bool a3_12) := (blk_cell BK103.out 12).trans rfl; have hcz42_13 : w39.cell? ⟨gb103, 13, none⟩ = some (.bool a3_13) := (blk_cell BK103.out 13).trans rfl; have hcz42_14 : w39.cell? ⟨gb103, 14, none⟩ = some (.bool a3_14) := (blk_cell BK103.out 14).trans rfl; have hcz42_15 : w39.cell? ⟨gb103, 15, none⟩ = some (.bool a3_15) := (blk_cell BK103.out 15).trans rfl; have hcz42_16 : w39.cell? ⟨gb103, 16, none⟩ = some (.bool a3_16) := (blk_cell BK103.out 16).trans rfl; have hcz42_17 : w39.cell? ⟨gb103, 17, none⟩ = some (.bool a3_17) := (blk_cell BK103.out 17).trans rfl; have hcz42_18 : w39.cell? ⟨gb103, 18, none⟩ = some (.int .i64 a3_18) := (blk_cell BK103.out 18).trans rfl; have hcz42_19 : w39.cell? ⟨gb103, 19, none⟩ = some (.int .i64 a3_19) := (blk_cell BK103.out 19).trans rfl; have hcz42_20 : w39.cell? ⟨gb103, 20, none⟩ = some (.int .i64 a3_20) := (blk_cell BK103.out 20).trans rfl; have hfz42_0 := blk_frozen BK103.out 0; have hfz42_1 := blk_frozen BK103.out 1; have hfz42_2 := blk_frozen BK103.out 2; have hfz42_3 := blk_frozen BK103.out 3; have hfz42_4 := blk_frozen BK103.out 4; have hfz42_5 := blk_frozen BK103.out 5; have hfz42_6 := blk_frozen BK103.out 6; have hfz42_7 := blk_frozen BK103.out 7; have hfz42_8 := blk_frozen BK103.out 8; have hfz42_9 := blk_frozen BK103.out 9; have hfz42_10 := blk_frozen BK103.out 10; have hfz42_11 := blk_frozen BK103.out 11; have hfz42_12 := blk_frozen BK103.out 12; have hfz42_13 := blk_frozen BK103.out 13; have hfz42_14 := blk_frozen BK103.out 14; have hfz42_15 := blk_frozen BK103.out 15; have hfz42_16 := blk_frozen BK103.out 16; have hfz42_17 := blk_frozen BK103.out 17; have hfz42_18 := blk_frozen BK103.out 18; have hfz42_19 := blk_frozen BK103.out 19; have hfz42_20 := blk_frozen BK103.out 20) | (go_at_call 22; (with_reducible refine (remoraref16_Near.calls kj5 a0_3 a0_4 a0_5 a0_6 a0_7 a1_3 a1_4 a1_5 a1_6 a1_7 a3_18 t105 _ A32.out).mono ?_); rintro e w43 ⟨rfl, hb⟩; have n0_ := Aside0.mk (blk_below (g := gb101) (o := .cells #[.string a0_0, .int .i64 a0_1, .int .i64 a0_2, .int .i64 a0_3, .int .i64 a0_4, .int .i64 a0_5, .int .i64 a0_6, .int .i64 a0_7, .string a0_8, .string a0_9, .int .i64 a0_10] 25 (0, 0)) (by (with_reducible repeat (first | refine blk_drewN ?_ _ | refine blk_drew ?_ | refine blk_alloc ?_ _)); exact BK101.out) hb); have n1_ := Aside0.mk (blk_below (g := gb102) (o := .cells #[.string a1_0, .int .i64 a1_1, .int .i64 a1_2, .int .i64 a1_3, .int .i64 a1_4, .int .i64 a1_5, .int .i64 a1_6, .int .i64 a1_7, .string a1_8, .string a1_9, .int .i64 a1_10] 25 (0, 0)) (by (with_reducible repeat (first | refine blk_drewN ?_ _ | refine blk_drew ?_ | refine blk_alloc ?_ _)); exact BK102.out) hb); have n2_ := Aside0.mk (blk_below (g := gb103) (o := .cells #[.int .i64 a3_0, .int .i64 a3_1, .bool a3_2, .bool a3_3, .bool true, .bool a3_5, .bool a3_6, .bool a3_7, .bool a3_8, .bool a3_9, .bool a3_10, .bool a3_11, .bool a3_12, .bool a3_13, .bool a3_14, .bool a3_15, .bool a3_16, .bool a3_17, .int .i64 a3_18, .int .i64 a3_19, .int .i64 a3_20] 27 (0, 0)) (by (with_reducible repeat (first | refine blk_drewN ?_ _ | refine blk_drew ?_ | refine blk_alloc ?_ _)); exact BK103.out) hb); have n3_ := Aside0.mk (below_step (by repeat (first | (with_reducible first | exact HB.out | apply below_alloc | apply pw_below_drewN | apply below_drew1 | refine below_set ?_ GE101.out | refine below_set ?_ GE102.out | refine below_set ?_ GE103.out) | exact HB.out)) hb); clear BK101; clear BK102; clear BK103; clear HB; have BK101 := n0_; have BK102 := n1_; have BK103 := n2_; have HB := n3_; clear n0_ n1_ n2_ n3_; (try clear hb); (try clear hb2); (try clear hk); (try clear hi)))
                  go_ret
                  exact ⟨by first | rfl | (simp [errW_none, errW_some] <;> rfl) | (simp [*, errW_none, errW_some] <;> rfl), by repeat (first | (with_reducible first | exact HB.out | apply below_alloc | apply pw_below_drewN | apply below_drew1 | refine below_set ?_ GE101.out | refine below_set ?_ GE102.out | refine below_set ?_ GE103.out) | exact HB.out)⟩
                · replace c31 := Bool.eq_false_iff.mpr c31
                  subst c31
                  have H1 : (some false) = some r := by rw [if_neg (show ¬ (false = true) by decide)] at H; exact H
                  clear H
                  have H := H1
                  clear H1
                  obtain rfl := Option.some.inj H
                  have hnb44 := NB103_101.out
                  have hnc44 := NB101_103.out
                  have hnb45 := NB103_102.out
                  have hnc45 := NB102_103.out
                  have hcz46_0 : wc.cell? ⟨gb103, 0, none⟩ = some (.int .i64 a3_0) := (blk_cell BK103.out 0).trans rfl
                  have hcz46_1 : wc.cell? ⟨gb103, 1, none⟩ = some (.int .i64 a3_1) := (blk_cell BK103.out 1).trans rfl
                  have hcz46_2 : wc.cell? ⟨gb103, 2, none⟩ = some (.bool a3_2) := (blk_cell BK103.out 2).trans rfl
                  have hcz46_3 : wc.cell? ⟨gb103, 3, none⟩ = some (.bool a3_3) := (blk_cell BK103.out 3).trans rfl
                  have hcz46_4 : wc.cell? ⟨gb103, 4, none⟩ = some (.bool true) := (blk_cell BK103.out 4).trans rfl
                  have hcz46_5 : wc.cell? ⟨gb103, 5, none⟩ = some (.bool a3_5) := (blk_cell BK103.out 5).trans rfl
                  have hcz46_6 : wc.cell? ⟨gb103, 6, none⟩ = some (.bool a3_6) := (blk_cell BK103.out 6).trans rfl
                  have hcz46_7 : wc.cell? ⟨gb103, 7, none⟩ = some (.bool a3_7) := (blk_cell BK103.out 7).trans rfl
                  have hcz46_8 : wc.cell? ⟨gb103, 8, none⟩ = some (.bool a3_8) := (blk_cell BK103.out 8).trans rfl
                  have hcz46_9 : wc.cell? ⟨gb103, 9, none⟩ = some (.bool a3_9) := (blk_cell BK103.out 9).trans rfl
                  have hcz46_10 : wc.cell? ⟨gb103, 10, none⟩ = some (.bool a3_10) := (blk_cell BK103.out 10).trans rfl
                  have hcz46_11 : wc.cell? ⟨gb103, 11, none⟩ = some (.bool a3_11) := (blk_cell BK103.out 11).trans rfl
                  have hcz46_12 : wc.cell? ⟨gb103, 12, none⟩ = some (.bool a3_12) := (blk_cell BK103.out 12).trans rfl
                  have hcz46_13 : wc.cell? ⟨gb103, 13, none⟩ = some (.bool a3_13) := (blk_cell BK103.out 13).trans rfl
                  have hcz46_14 : wc.cell? ⟨gb103, 14, none⟩ = some (.bool a3_14) := (blk_cell BK103.out 14).trans rfl
                  have hcz46_15 : wc.cell? ⟨gb103, 15, none⟩ = some (.bool a3_15) := (blk_cell BK103.out 15).trans rfl
                  have hcz46_16 : wc.cell? ⟨gb103, 16, none⟩ = some (.bool a3_16) := (blk_cell BK103.out 16).trans rfl
                  have hcz46_17 : wc.cell? ⟨gb103, 17, none⟩ = some (.bool a3_17) := (blk_cell BK103.out 17).trans rfl
                  have hcz46_18 : wc.cell? ⟨gb103, 18, none⟩ = some (.int .i64 a3_18) := (blk_cell BK103.out 18).trans rfl
                  have hcz46_19 : wc.cell? ⟨gb103, 19, none⟩ = some (.int .i64 a3_19) := (blk_cell BK103.out 19).trans rfl
                  have hcz46_20 : wc.cell? ⟨gb103, 20, none⟩ = some (.int .i64 a3_20) := (blk_cell BK103.out 20).trans rfl
                  have hfz46_0 := blk_frozen BK103.out 0
                  have hfz46_1 := blk_frozen BK103.out 1
                  have hfz46_2 := blk_frozen BK103.out 2
                  have hfz46_3 := blk_frozen BK103.out 3
                  have hfz46_4 := blk_frozen BK103.out 4
                  have hfz46_5 := blk_frozen BK103.out 5
                  have hfz46_6 := blk_frozen BK103.out 6
                  have hfz46_7 := blk_frozen BK103.out 7
                  have hfz46_8 := blk_frozen BK103.out 8
                  have hfz46_9 := blk_frozen BK103.out 9
                  have hfz46_10 := blk_frozen BK103.out 10
                  have hfz46_11 := blk_frozen BK103.out 11
                  have hfz46_12 := blk_frozen BK103.out 12
                  have hfz46_13 := blk_frozen BK103.out 13
                  have hfz46_14 := blk_frozen BK103.out 14
                  have hfz46_15 := blk_frozen BK103.out 15
                  have hfz46_16 := blk_frozen BK103.out 16
                  have hfz46_17 := blk_frozen BK103.out 17
                  have hfz46_18 := blk_frozen BK103.out 18
                  have hfz46_19 := blk_frozen BK103.out 19
                  have hfz46_20 := blk_frozen BK103.out 20
                  have hnb47 := NB101_102.out
                  have hnc47 := NB102_101.out
                  have hcz48_0 : wc.cell? ⟨gb101, 0, none⟩ = some (.string a0_0) := (blk_cell BK101.out 0).trans rfl
                  have hcz48_1 : wc.cell? ⟨gb101, 1, none⟩ = some (.int .i64 a0_1) := (blk_cell BK101.out 1).trans rfl
                  have hcz48_2 : wc.cell? ⟨gb101, 2, none⟩ = some (.int .i64 a0_2) := (blk_cell BK101.out 2).trans rfl
                  have hcz48_3 : wc.cell? ⟨gb101, 3, none⟩ = some (.int .i64 a0_3) := (blk_cell BK101.out 3).trans rfl
                  have hcz48_4 : wc.cell? ⟨gb101, 4, none⟩ = some (.int .i64 a0_4) := (blk_cell BK101.out 4).trans rfl
                  have hcz48_5 : wc.cell? ⟨gb101, 5, none⟩ = some (.int .i64 a0_5) := (blk_cell BK101.out 5).trans rfl
                  have hcz48_6 : wc.cell? ⟨gb101, 6, none⟩ = some (.int .i64 a0_6) := (blk_cell BK101.out 6).trans rfl
                  have hcz48_7 : wc.cell? ⟨gb101, 7, none⟩ = some (.int .i64 a0_7) := (blk_cell BK101.out 7).trans rfl
                  have hcz48_8 : wc.cell? ⟨gb101, 8, none⟩ = some (.string a0_8) := (blk_cell BK101.out 8).trans rfl
                  have hcz48_9 : wc.cell? ⟨gb101, 9, none⟩ = some (.string a0_9) := (blk_cell BK101.out 9).trans rfl
                  have hcz48_10 : wc.cell? ⟨gb101, 10, none⟩ = some (.int .i64 a0_10) := (blk_cell BK101.out 10).trans rfl
                  have hfz48_0 := blk_frozen BK101.out 0
                  have hfz48_1 := blk_frozen BK101.out 1
                  have hfz48_2 := blk_frozen BK101.out 2
                  have hfz48_3 := blk_frozen BK101.out 3
                  have hfz48_4 := blk_frozen BK101.out 4
                  have hfz48_5 := blk_frozen BK101.out 5
                  have hfz48_6 := blk_frozen BK101.out 6
                  have hfz48_7 := blk_frozen BK101.out 7
                  have hfz48_8 := blk_frozen BK101.out 8
                  have hfz48_9 := blk_frozen BK101.out 9
                  have hfz48_10 := blk_frozen BK101.out 10
                  have hcz49_0 : wc.cell? ⟨gb102, 0, none⟩ = some (.string a1_0) := (blk_cell BK102.out 0).trans rfl
                  have hcz49_1 : wc.cell? ⟨gb102, 1, none⟩ = some (.int .i64 a1_1) := (blk_cell BK102.out 1).trans rfl
                  have hcz49_2 : wc.cell? ⟨gb102, 2, none⟩ = some (.int .i64 a1_2) := (blk_cell BK102.out 2).trans rfl
                  have hcz49_3 : wc.cell? ⟨gb102, 3, none⟩ = some (.int .i64 a1_3) := (blk_cell BK102.out 3).trans rfl
                  have hcz49_4 : wc.cell? ⟨gb102, 4, none⟩ = some (.int .i64 a1_4) := (blk_cell BK102.out 4).trans rfl
                  have hcz49_5 : wc.cell? ⟨gb102, 5, none⟩ = some (.int .i64 a1_5) := (blk_cell BK102.out 5).trans rfl
                  have hcz49_6 : wc.cell? ⟨gb102, 6, none⟩ = some (.int .i64 a1_6) := (blk_cell BK102.out 6).trans rfl
                  have hcz49_7 : wc.cell? ⟨gb102, 7, none⟩ = some (.int .i64 a1_7) := (blk_cell BK102.out 7).trans rfl
                  have hcz49_8 : wc.cell? ⟨gb102, 8, none⟩ = some (.string a1_8) := (blk_cell BK102.out 8).trans rfl
                  have hcz49_9 : wc.cell? ⟨gb102, 9, none⟩ = some (.string a1_9) := (blk_cell BK102.out 9).trans rfl
                  have hcz49_10 : wc.cell? ⟨gb102, 10, none⟩ = some (.int .i64 a1_10) := (blk_cell BK102.out 10).trans rfl
                  have hfz49_0 := blk_frozen BK102.out 0
                  have hfz49_1 := blk_frozen BK102.out 1
                  have hfz49_2 := blk_frozen BK102.out 2
                  have hfz49_3 := blk_frozen BK102.out 3
                  have hfz49_4 := blk_frozen BK102.out 4
                  have hfz49_5 := blk_frozen BK102.out 5
                  have hfz49_6 := blk_frozen BK102.out 6
                  have hfz49_7 := blk_frozen BK102.out 7
                  have hfz49_8 := blk_frozen BK102.out 8
                  have hfz49_9 := blk_frozen BK102.out 9
                  have hfz49_10 := blk_frozen BK102.out 10
                  go_wp2_with (first | (go_at_call 27; (with_reducible refine (remoraref21_later.calls a1_3 a1_4 a1_5 a1_6 a1_7 a0_3 a0_4 a0_5 a0_6 a0_7 false _ A30.out).mono ?_); rintro e w50 ⟨rfl, hb⟩; have n0_ := Aside0.mk (blk_below (g := gb101) (o := .cells #[.string a0_0, .int .i64 a0_1, .int .i64 a0_2, .int .i64 a0_3, .int .i64 a0_4, .int .i64 a0_5, .int .i64 a0_6, .int .i64 a0_7, .string a0_8, .string a0_9, .int .i64 a0_10] 25 (0, 0)) (by (with_reducible repeat (first | refine blk_drewN ?_ _ | refine blk_drew ?_ | refine blk_alloc ?_ _)); exact BK101.out) hb); have n1_ := Aside0.mk (blk_below (g := gb102) (o := .cells #[.string a1_0, .int .i64 a1_1, .int .i64 a1_2, .int .i64 a1_3, .int .i64 a1_4, .int .i64 a1_5, .int .i64 a1_6, .int .i64 a1_7, .string a1_8, .string a1_9, .int .i64 a1_10] 25 (0, 0)) (by (with_reducible repeat (first | refine blk_drewN ?_ _ | refine blk_drew ?_ | refine blk_alloc ?_ _)); exact BK102.out) hb); have n2_ := Aside0.mk (blk_below (g := gb103) (o := .cells #[.int .i64 a3_0, .int .i64 a3_1, .bool a3_2, .bool a3_3, .bool true, .bool a3_5, .bool a3_6, .bool a3_7, .bool a3_8, .bool a3_9, .bool a3_10, .bool a3_11, .bool a3_12, .bool a3_13, .bool a3_14, .bool a3_15, .bool a3_16, .bool a3_17, .int .i64 a3_18, .int .i64 a3_19, .int .i64 a3_20] 27 (0, 0)) (by (with_reducible repeat (first | refine blk_drewN ?_ _ | refine blk_drew ?_ | refine blk_alloc ?_ _)); exact BK103.out) hb); have n3_ := Aside0.mk (below_step (by repeat (first | (with_reducible first | exact HB.out | apply below_alloc | apply pw_below_drewN | apply below_drew1 | refine below_set ?_ GE101.out | refine below_set ?_ GE102.out | refine below_set ?_ GE103.out) | exact HB.out)) hb); clear BK101; clear BK102; clear BK103; clear HB; have BK101 := n0_; have BK102 := n1_; have BK103 := n2_; have HB := n3_; clear n0_ n1_ n2_ n3_; (try clear hb); (try clear hb2); (try clear hk); (try clear hi)))
                  go_ret
                  exact ⟨by first | rfl | (simp [errW_none, errW_some] <;> rfl) | (simp [*, errW_none, errW_some] <;> rfl), by repeat (first | (with_reducible first | exact HB.out | apply below_alloc | apply pw_below_drewN | apply below_drew1 | refine below_set ?_ GE101.out | refine below_set ?_ GE102.out | refine below_set ?_ GE103.out) | exact HB.out)⟩
              · rw [if_neg c29] at H
                have c29b0 : (a1_1 == 1) = false := beq_eq_false_iff_ne.mpr c29
                have c29b1 : (a1_1 != 1) = true := bne_iff_ne.mpr c29
                obtain rfl := Option.some.inj H
                have hnb51 := NB103_101.out
                have hnc51 := NB101_103.out
                have hnb52 := NB103_102.out
                have hnc52 := NB102_103.out
                have hcz53_0 : wc.cell? ⟨gb103, 0, none⟩ = some (.int .i64 a3_0) := (blk_cell BK103.out 0).trans rfl
                have hcz53_1 : wc.cell? ⟨gb103, 1, none⟩ = some (.int .i64 a3_1) := (blk_cell BK103.out 1).trans rfl
                have hcz53_2 : wc.cell? ⟨gb103, 2, none⟩ = some (.bool a3_2) := (blk_cell BK103.out 2).trans rfl
                have hcz53_3 : wc.cell? ⟨gb103, 3, none⟩ = some (.bool a3_3) := (blk_cell BK103.out 3).trans rfl
                have hcz53_4 : wc.cell? ⟨gb103, 4, none⟩ = some (.bool true) := (blk_cell BK103.out 4).trans rfl
                have hcz53_5 : wc.cell? ⟨gb103, 5, none⟩ = some (.bool a3_5) := (blk_cell BK103.out 5).trans rfl
                have hcz53_6 : wc.cell? ⟨gb103, 6, none⟩ = some (.bool a3_6) := (blk_cell BK103.out 6).trans rfl
                have hcz53_7 : wc.cell? ⟨gb103, 7, none⟩ = some (.bool a3_7) := (blk_cell BK103.out 7).trans rfl
                have hcz53_8 : wc.cell? ⟨gb103, 8, none⟩ = some (.bool a3_8) := (blk_cell BK103.out 8).trans rfl
                have hcz53_9 : wc.cell? ⟨gb103, 9, none⟩ = some (.bool a3_9) := (blk_cell BK103.out 9).trans rfl
                have hcz53_10 : wc.cell? ⟨gb103, 10, none⟩ = some (.bool a3_10) := (blk_cell BK103.out 10).trans rfl
                have hcz53_11 : wc.cell? ⟨gb103, 11, none⟩ = some (.bool a3_11) := (blk_cell BK103.out 11).trans rfl
                have hcz53_12 : wc.cell? ⟨gb103, 12, none⟩ = some (.bool a3_12) := (blk_cell BK103.out 12).trans rfl
                have hcz53_13 : wc.cell? ⟨gb103, 13, none⟩ = some (.bool a3_13) := (blk_cell BK103.out 13).trans rfl
                have hcz53_14 : wc.cell? ⟨gb103, 14, none⟩ = some (.bool a3_14) := (blk_cell BK103.out 14).trans rfl
                have hcz53_15 : wc.cell? ⟨gb103, 15, none⟩ = some (.bool a3_15) := (blk_cell BK103.out 15).trans rfl
                have hcz53_16 : wc.cell? ⟨gb103, 16, none⟩ = some (.bool a3_16) := (blk_cell BK103.out 16).trans rfl
                have hcz53_17 : wc.cell? ⟨gb103, 17, none⟩ = some (.bool a3_17) := (blk_cell BK103.out 17).trans rfl
                have hcz53_18 : wc.cell? ⟨gb103, 18, none⟩ = some (.int .i64 a3_18) := (blk_cell BK103.out 18).trans rfl
                have hcz53_19 : wc.cell? ⟨gb103, 19, none⟩ = some (.int .i64 a3_19) := (blk_cell BK103.out 19).trans rfl
                have hcz53_20 : wc.cell? ⟨gb103, 20, none⟩ = some (.int .i64 a3_20) := (blk_cell BK103.out 20).trans rfl
                have hfz53_0 := blk_frozen BK103.out 0
                have hfz53_1 := blk_frozen BK103.out 1
                have hfz53_2 := blk_frozen BK103.out 2
                have hfz53_3 := blk_frozen BK103.out 3
                have hfz53_4 := blk_frozen BK103.out 4
                have hfz53_5 := blk_frozen BK103.out 5
                have hfz53_6 := blk_frozen BK103.out 6
                have hfz53_7 := blk_frozen BK103.out 7
                have hfz53_8 := blk_frozen BK103.out 8
                have hfz53_9 := blk_frozen BK103.out 9
                have hfz53_10 := blk_frozen BK103.out 10
                have hfz53_11 := blk_frozen BK103.out 11
                have hfz53_12 := blk_frozen BK103.out 12
                have hfz53_13 := blk_frozen BK103.out 13
                have hfz53_14 := blk_frozen BK103.out 14
                have hfz53_15 := blk_frozen BK103.out 15
                have hfz53_16 := blk_frozen BK103.out 16
                have hfz53_17 := blk_frozen BK103.out 17
                have hfz53_18 := blk_frozen BK103.out 18
                have hfz53_19 := blk_frozen BK103.out 19
                have hfz53_20 := blk_frozen BK103.out 20
                have hnb54 := NB101_102.out
                have hnc54 := NB102_101.out
                have hcz55_0 : wc.cell? ⟨gb101, 0, none⟩ = some (.string a0_0) := (blk_cell BK101.out 0).trans rfl
                have hcz55_1 : wc.cell? ⟨gb101, 1, none⟩ = some (.int .i64 a0_1) := (blk_cell BK101.out 1).trans rfl
                have hcz55_2 : wc.cell? ⟨gb101, 2, none⟩ = some (.int .i64 a0_2) := (blk_cell BK101.out 2).trans rfl
                have hcz55_3 : wc.cell? ⟨gb101, 3, none⟩ = some (.int .i64 a0_3) := (blk_cell BK101.out 3).trans rfl
                have hcz55_4 : wc.cell? ⟨gb101, 4, none⟩ = some (.int .i64 a0_4) := (blk_cell BK101.out 4).trans rfl
                have hcz55_5 : wc.cell? ⟨gb101, 5, none⟩ = some (.int .i64 a0_5) := (blk_cell BK101.out 5).trans rfl
                have hcz55_6 : wc.cell? ⟨gb101, 6, none⟩ = some (.int .i64 a0_6) := (blk_cell BK101.out 6).trans rfl
                have hcz55_7 : wc.cell? ⟨gb101, 7, none⟩ = some (.int .i64 a0_7) := (blk_cell BK101.out 7).trans rfl
                have hcz55_8 : wc.cell? ⟨gb101, 8, none⟩ = some (.string a0_8) := (blk_cell BK101.out 8).trans rfl
                have hcz55_9 : wc.cell? ⟨gb101, 9, none⟩ = some (.string a0_9) := (blk_cell BK101.out 9).trans rfl
                have hcz55_10 : wc.cell? ⟨gb101, 10, none⟩ = some (.int .i64 a0_10) := (blk_cell BK101.out 10).trans rfl
                have hfz55_0 := blk_frozen BK101.out 0
                have hfz55_1 := blk_frozen BK101.out 1
                have hfz55_2 := blk_frozen BK101.out 2
                have hfz55_3 := blk_frozen BK101.out 3
                have hfz55_4 := blk_frozen BK101.out 4
                have hfz55_5 := blk_frozen BK101.out 5
                have hfz55_6 := blk_frozen BK101.out 6
                have hfz55_7 := blk_frozen BK101.out 7
                have hfz55_8 := blk_frozen BK101.out 8
                have hfz55_9 := blk_frozen BK101.out 9
                have hfz55_10 := blk_frozen BK101.out 10
                have hcz56_0 : wc.cell? ⟨gb102, 0, none⟩ = some (.string a1_0) := (blk_cell BK102.out 0).trans rfl
                have hcz56_1 : wc.cell? ⟨gb102, 1, none⟩ = some (.int .i64 a1_1) := (blk_cell BK102.out 1).trans rfl
                have hcz56_2 : wc.cell? ⟨gb102, 2, none⟩ = some (.int .i64 a1_2) := (blk_cell BK102.out 2).trans rfl
                have hcz56_3 : wc.cell? ⟨gb102, 3, none⟩ = some (.int .i64 a1_3) := (blk_cell BK102.out 3).trans rfl
                have hcz56_4 : wc.cell? ⟨gb102, 4, none⟩ = some (.int .i64 a1_4) := (blk_cell BK102.out 4).trans rfl
                have hcz56_5 : wc.cell? ⟨gb102, 5, none⟩ = some (.int .i64 a1_5) := (blk_cell BK102.out 5).trans rfl
                have hcz56_6 : wc.cell? ⟨gb102, 6, none⟩ = some (.int .i64 a1_6) := (blk_cell BK102.out 6).trans rfl
                have hcz56_7 : wc.cell? ⟨gb102, 7, none⟩ = some (.int .i64 a1_7) := (blk_cell BK102.out 7).trans rfl
                have hcz56_8 : wc.cell? ⟨gb102, 8, none⟩ = some (.string a1_8) := (blk_cell BK102.out 8).trans rfl
                have hcz56_9 : wc.cell? ⟨gb102, 9, none⟩ = some (.string a1_9) := (blk_cell BK102.out 9).trans rfl
                have hcz56_10 : wc.cell? ⟨gb102, 10, none⟩ = some (.int .i64 a1_10) := (blk_cell BK102.out 10).trans rfl
                have hfz56_0 := blk_frozen BK102.out 0
                have hfz56_1 := blk_frozen BK102.out 1
                have hfz56_2 := blk_frozen BK102.out 2
                have hfz56_3 := blk_frozen BK102.out 3
                have hfz56_4 := blk_frozen BK102.out 4
                have hfz56_5 := blk_frozen BK102.out 5
                have hfz56_6 := blk_frozen BK102.out 6
                have hfz56_7 := blk_frozen BK102.out 7
                have hfz56_8 := blk_frozen BK102.out 8
                have hfz56_9 := blk_frozen BK102.out 9
                have hfz56_10 := blk_frozen BK102.out 10
                go_wp2
                go_ret
                exact ⟨by first | rfl | (simp [errW_none, errW_some] <;> rfl) | (simp [*, errW_none, errW_some] <;> rfl), by repeat (first | (with_reducible first | exact HB.out | apply below_alloc | apply pw_below_drewN | apply below_drew1 | refine below_set ?_ GE101.out | refine below_set ?_ GE102.out | refine below_set ?_ GE103.out) | exact HB.out)⟩
            · rw [if_neg c28] at H
              have c28b0 : (a0_1 == 1) = false := beq_eq_false_iff_ne.mpr c28
              have c28b1 : (a0_1 != 1) = true := bne_iff_ne.mpr c28
              obtain rfl := Option.some.inj H
              have hnb57 := NB103_101.out
              have hnc57 := NB101_103.out
              have hnb58 := NB103_102.out
              have hnc58 := NB102_103.out
              have hcz59_0 : wc.cell? ⟨gb103, 0, none⟩ = some (.int .i64 a3_0) := (blk_cell BK103.out 0).trans rfl
              have hcz59_1 : wc.cell? ⟨gb103, 1, none⟩ = some (.int .i64 a3_1) := (blk_cell BK103.out 1).trans rfl
              have hcz59_2 : wc.cell? ⟨gb103, 2, none⟩ = some (.bool a3_2) := (blk_cell BK103.out 2).trans rfl
              have hcz59_3 : wc.cell? ⟨gb103, 3, none⟩ = some (.bool a3_3) := (blk_cell BK103.out 3).trans rfl
              have hcz59_4 : wc.cell? ⟨gb103, 4, none⟩ = some (.bool true) := (blk_cell BK103.out 4).trans rfl
              have hcz59_5 : wc.cell? ⟨gb103, 5, none⟩ = some (.bool a3_5) := (blk_cell BK103.out 5).trans rfl
              have hcz59_6 : wc.cell? ⟨gb103, 6, none⟩ = some (.bool a3_6) := (blk_cell BK103.out 6).trans rfl
              have hcz59_7 : wc.cell? ⟨gb103, 7, none⟩ = some (.bool a3_7) := (blk_cell BK103.out 7).trans rfl
              have hcz59_8 : wc.cell? ⟨gb103, 8, none⟩ = some (.bool a3_8) := (blk_cell BK103.out 8).trans rfl
              have hcz59_9 : wc.cell? ⟨gb103, 9, none⟩ = some (.bool a3_9) := (blk_cell BK103.out 9).trans rfl
              have hcz59_10 : wc.cell? ⟨gb103, 10, none⟩ = some (.bool a3_10) := (blk_cell BK103.out 10).trans rfl
              have hcz59_11 : wc.cell? ⟨gb103, 11, none⟩ = some (.bool a3_11) := (blk_cell BK103.out 11).trans rfl
              have hcz59_12 : wc.cell? ⟨gb103, 12, none⟩ = some (.bool a3_12) := (blk_cell BK103.out 12).trans rfl
              have hcz59_13 : wc.cell? ⟨gb103, 13, none⟩ = some (.bool a3_13) := (blk_cell BK103.out 13).trans rfl
              have hcz59_14 : wc.cell? ⟨gb103, 14, none⟩ = some (.bool a3_14) := (blk_cell BK103.out 14).trans rfl
              have hcz59_15 : wc.cell? ⟨gb103, 15, none⟩ = some (.bool a3_15) := (blk_cell BK103.out 15).trans rfl
              have hcz59_16 : wc.cell? ⟨gb103, 16, none⟩ = some (.bool a3_16) := (blk_cell BK103.out 16).trans rfl
              have hcz59_17 : wc.cell? ⟨gb103, 17, none⟩ = some (.bool a3_17) := (blk_cell BK103.out 17).trans rfl
              have hcz59_18 : wc.cell? ⟨gb103, 18, none⟩ = some (.int .i64 a3_18) := (blk_cell BK103.out 18).trans rfl
              have hcz59_19 : wc.cell? ⟨gb103, 19, none⟩ = some (.int .i64 a3_19) := (blk_cell BK103.out 19).trans rfl
              have hcz59_20 : wc.cell? ⟨gb103, 20, none⟩ = some (.int .i64 a3_20) := (blk_cell BK103.out 20).trans rfl
              have hfz59_0 := blk_frozen BK103.out 0
              have hfz59_1 := blk_frozen BK103.out 1
              have hfz59_2 := blk_frozen BK103.out 2
              have hfz59_3 := blk_frozen BK103.out 3
              have hfz59_4 := blk_frozen BK103.out 4
              have hfz59_5 := blk_frozen BK103.out 5
              have hfz59_6 := blk_frozen BK103.out 6
              have hfz59_7 := blk_frozen BK103.out 7
              have hfz59_8 := blk_frozen BK103.out 8
              have hfz59_9 := blk_frozen BK103.out 9
              have hfz59_10 := blk_frozen BK103.out 10
              have hfz59_11 := blk_frozen BK103.out 11
              have hfz59_12 := blk_frozen BK103.out 12
              have hfz59_13 := blk_frozen BK103.out 13
              have hfz59_14 := blk_frozen BK103.out 14
              have hfz59_15 := blk_frozen BK103.out 15
              have hfz59_16 := blk_frozen BK103.out 16
              have hfz59_17 := blk_frozen BK103.out 17
              have hfz59_18 := blk_frozen BK103.out 18
              have hfz59_19 := blk_frozen BK103.out 19
              have hfz59_20 := blk_frozen BK103.out 20
              have hnb60 := NB101_102.out
              have hnc60 := NB102_101.out
              have hcz61_0 : wc.cell? ⟨gb101, 0, none⟩ = some (.string a0_0) := (blk_cell BK101.out 0).trans rfl
              have hcz61_1 : wc.cell? ⟨gb101, 1, none⟩ = some (.int .i64 a0_1) := (blk_cell BK101.out 1).trans rfl
              have hcz61_2 : wc.cell? ⟨gb101, 2, none⟩ = some (.int .i64 a0_2) := (blk_cell BK101.out 2).trans rfl
              have hcz61_3 : wc.cell? ⟨gb101, 3, none⟩ = some (.int .i64 a0_3) := (blk_cell BK101.out 3).trans rfl
              have hcz61_4 : wc.cell? ⟨gb101, 4, none⟩ = some (.int .i64 a0_4) := (blk_cell BK101.out 4).trans rfl
              have hcz61_5 : wc.cell? ⟨gb101, 5, none⟩ = some (.int .i64 a0_5) := (blk_cell BK101.out 5).trans rfl
              have hcz61_6 : wc.cell? ⟨gb101, 6, none⟩ = some (.int .i64 a0_6) := (blk_cell BK101.out 6).trans rfl
              have hcz61_7 : wc.cell? ⟨gb101, 7, none⟩ = some (.int .i64 a0_7) := (blk_cell BK101.out 7).trans rfl
              have hcz61_8 : wc.cell? ⟨gb101, 8, none⟩ = some (.string a0_8) := (blk_cell BK101.out 8).trans rfl
              have hcz61_9 : wc.cell? ⟨gb101, 9, none⟩ = some (.string a0_9) := (blk_cell BK101.out 9).trans rfl
              have hcz61_10 : wc.cell? ⟨gb101, 10, none⟩ = some (.int .i64 a0_10) := (blk_cell BK101.out 10).trans rfl
              have hfz61_0 := blk_frozen BK101.out 0
              have hfz61_1 := blk_frozen BK101.out 1
              have hfz61_2 := blk_frozen BK101.out 2
              have hfz61_3 := blk_frozen BK101.out 3
              have hfz61_4 := blk_frozen BK101.out 4
              have hfz61_5 := blk_frozen BK101.out 5
              have hfz61_6 := blk_frozen BK101.out 6
              have hfz61_7 := blk_frozen BK101.out 7
              have hfz61_8 := blk_frozen BK101.out 8
              have hfz61_9 := blk_frozen BK101.out 9
              have hfz61_10 := blk_frozen BK101.out 10
              go_wp2
              go_ret
              exact ⟨by first | rfl | (simp [errW_none, errW_some] <;> rfl) | (simp [*, errW_none, errW_some] <;> rfl), by repeat (first | (with_reducible first | exact HB.out | apply below_alloc | apply pw_below_drewN | apply below_drew1 | refine below_set ?_ GE101.out | refine below_set ?_ GE102.out | refine below_set ?_ GE103.out) | exact HB.out)⟩
          · replace c27 := Bool.eq_false_iff.mpr c27
            subst c27
            have H1 : (some false) = some r := by rw [if_neg (show ¬ (false = true) by decide)] at H; exact H
            clear H
            have H := H1
            clear H1
            obtain rfl := Option.some.inj H
            have hnb62 := NB103_101.out
            have hnc62 := NB101_103.out
            have hnb63 := NB103_102.out
            have hnc63 := NB102_103.out
            have hcz64_0 : wc.cell? ⟨gb103, 0, none⟩ = some (.int .i64 a3_0) := (blk_cell BK103.out 0).trans rfl
            have hcz64_1 : wc.cell? ⟨gb103, 1, none⟩ = some (.int .i64 a3_1) := (blk_cell BK103.out 1).trans rfl
            have hcz64_2 : wc.cell? ⟨gb103, 2, none⟩ = some (.bool a3_2) := (blk_cell BK103.out 2).trans rfl
            have hcz64_3 : wc.cell? ⟨gb103, 3, none⟩ = some (.bool a3_3) := (blk_cell BK103.out 3).trans rfl
            have hcz64_4 : wc.cell? ⟨gb103, 4, none⟩ = some (.bool false) := (blk_cell BK103.out 4).trans rfl
            have hcz64_5 : wc.cell? ⟨gb103, 5, none⟩ = some (.bool a3_5) := (blk_cell BK103.out 5).trans rfl
            have hcz64_6 : wc.cell? ⟨gb103, 6, none⟩ = some (.bool a3_6) := (blk_cell BK103.out 6).trans rfl
            have hcz64_7 : wc.cell? ⟨gb103, 7, none⟩ = some (.bool a3_7) := (blk_cell BK103.out 7).trans rfl
            have hcz64_8 : wc.cell? ⟨gb103, 8, none⟩ = some (.bool a3_8) := (blk_cell BK103.out 8).trans rfl
            have hcz64_9 : wc.cell? ⟨gb103, 9, none⟩ = some (.bool a3_9) := (blk_cell BK103.out 9).trans rfl
            have hcz64_10 : wc.cell? ⟨gb103, 10, none⟩ = some (.bool a3_10) := (blk_cell BK103.out 10).trans rfl
            have hcz64_11 : wc.cell? ⟨gb103, 11, none⟩ = some (.bool a3_11) := (blk_cell BK103.out 11).trans rfl
            have hcz64_12 : wc.cell? ⟨gb103, 12, none⟩ = some (.bool a3_12) := (blk_cell BK103.out 12).trans rfl
            have hcz64_13 : wc.cell? ⟨gb103, 13, none⟩ = some (.bool a3_13) := (blk_cell BK103.out 13).trans rfl
            have hcz64_14 : wc.cell? ⟨gb103, 14, none⟩ = some (.bool a3_14) := (blk_cell BK103.out 14).trans rfl
            have hcz64_15 : wc.cell? ⟨gb103, 15, none⟩ = some (.bool a3_15) := (blk_cell BK103.out 15).trans rfl
            have hcz64_16 : wc.cell? ⟨gb103, 16, none⟩ = some (.bool a3_16) := (blk_cell BK103.out 16).trans rfl
            have hcz64_17 : wc.cell? ⟨gb103, 17, none⟩ = some (.bool a3_17) := (blk_cell BK103.out 17).trans rfl
            have hcz64_18 : wc.cell? ⟨gb103, 18, none⟩ = some (.int .i64 a3_18) := (blk_cell BK103.out 18).trans rfl
            have hcz64_19 : wc.cell? ⟨gb103, 19, none⟩ = some (.int .i64 a3_19) := (blk_cell BK103.out 19).trans rfl
            have hcz64_20 : wc.cell? ⟨gb103, 20, none⟩ = some (.int .i64 a3_20) := (blk_cell BK103.out 20).trans rfl
            have hfz64_0 := blk_frozen BK103.out 0
            have hfz64_1 := blk_frozen BK103.out 1
            have hfz64_2 := blk_frozen BK103.out 2
            have hfz64_3 := blk_frozen BK103.out 3
            have hfz64_4 := blk_frozen BK103.out 4
            have hfz64_5 := blk_frozen BK103.out 5
            have hfz64_6 := blk_frozen BK103.out 6
            have hfz64_7 := blk_frozen BK103.out 7
            have hfz64_8 := blk_frozen BK103.out 8
            have hfz64_9 := blk_frozen BK103.out 9
            have hfz64_10 := blk_frozen BK103.out 10
            have hfz64_11 := blk_frozen BK103.out 11
            have hfz64_12 := blk_frozen BK103.out 12
            have hfz64_13 := blk_frozen BK103.out 13
            have hfz64_14 := blk_frozen BK103.out 14
            have hfz64_15 := blk_frozen BK103.out 15
            have hfz64_16 := blk_frozen BK103.out 16
            have hfz64_17 := blk_frozen BK103.out 17
            have hfz64_18 := blk_frozen BK103.out 18
            have hfz64_19 := blk_frozen BK103.out 19
            have hfz64_20 := blk_frozen BK103.out 20
            go_wp2
            go_ret
            exact ⟨by first | rfl | (simp [errW_none, errW_some] <;> rfl) | (simp [*, errW_none, errW_some] <;> rfl), by repeat (first | (with_reducible first | exact HB.out | apply below_alloc | apply pw_below_drewN | apply below_drew1 | refine below_set ?_ GE101.out | refine below_set ?_ GE102.out | refine below_set ?_ GE103.out) | exact HB.out)⟩
  · replace c5 := Bool.eq_false_iff.mpr c5
    subst c5
    have H1 : (some a3_5) = some r := by rw [if_neg (show ¬ (false = true) by decide)] at H; exact H
    clear H
    have H := H1
    clear H1
    obtain rfl := Option.some.inj H
    go_enter Try.func18, Try.ntmps18
    go_wp2_with (first | ((with_reducible refine gate_dst (N := 4) rfl ?_); refine box_event ?hg (N := 4) ?hd (cs := #[.string a0_0, .int .i64 a0_1, .int .i64 a0_2, .int .i64 a0_3, .int .i64 a0_4, .int .i64 a0_5, .int .i64 a0_6, .int .i64 a0_7, .string a0_8, .string a0_9, .int .i64 a0_10]) (t := 25) ?hr ?_; (case hd => rfl); (case hg => rfl); (case hr => first | (go_simp; done) | (go_simp; rfl)); intro gb101 hg w65 hbox hb; have n0_ := Aside0.mk (below_step (by repeat (first | (with_reducible first | exact HB.out | apply below_alloc | apply pw_below_drewN | apply below_drew1) | exact HB.out)) hb); have n1_ := Aside0.mk (hbox); have n2_ := Aside0.mk ((by rw [hg]; exact (below_size (by repeat (first | (with_reducible first | exact HB.out | apply below_alloc | apply pw_below_drewN | apply below_drew1) | exact HB.out))) : w.heap.size ≤ gb101)); have n3_ := Aside0.mk ((by rw [hg]; exact (below_size (by repeat (first | (with_reducible first | exact HB.out | apply below_alloc | apply pw_below_drewN | apply below_drew1) | exact HB.out))) : w.heap.size ≤ gb101)); clear HB; have HB := n0_; have BK101 := n1_; have GW101 := n2_; have GE101 := n3_; clear n0_ n1_ n2_ n3_; clear hb hbox hg) | ((with_reducible refine gate_dst (N := 5) rfl ?_); refine box_event ?hg (N := 5) ?hd (cs := #[.string a1_0, .int .i64 a1_1, .int .i64 a1_2, .int .i64 a1_3, .int .i64 a1_4, .int .i64 a1_5, .int .i64 a1_6, .int .i64 a1_7, .string a1_8, .string a1_9, .int .i64 a1_10]) (t := 25) ?hr ?_; (case hd => rfl); (case hg => rfl); (case hr => first | (go_simp; done) | (go_simp; rfl)); intro gb102 hg w66 hbox hb; have n0_ := Aside0.mk (blk_below (g := gb101) (o := .cells #[.string a0_0, .int .i64 a0_1, .int .i64 a0_2, .int .i64 a0_3, .int .i64 a0_4, .int .i64 a0_5, .int .i64 a0_6, .int .i64 a0_7, .string a0_8, .string a0_9, .int .i64 a0_10] 25 (0, 0)) (by (with_reducible repeat (first | refine blk_drewN ?_ _ | refine blk_drew ?_ | refine blk_alloc ?_ _)); exact BK101.out) hb); have n1_ := Aside0.mk (below_step (by repeat (first | (with_reducible first | exact HB.out | apply below_alloc | apply pw_below_drewN | apply below_drew1 | refine below_set ?_ GE101.out) | exact HB.out)) hb); have n2_ := Aside0.mk (hbox); have n3_ := Aside0.mk ((by rw [hg]; exact (below_size (by repeat (first | (with_reducible first | exact HB.out | apply below_alloc | apply pw_below_drewN | apply below_drew1 | refine below_set ?_ GE101.out) | exact HB.out))) : w.heap.size ≤ gb102)); have n4_ := Aside0.mk ((by rw [hg]; exact (below_size (by repeat (first | (with_reducible first | exact HB.out | apply below_alloc | apply pw_below_drewN | apply below_drew1 | refine below_set ?_ GE101.out) | exact HB.out))) : w.heap.size ≤ gb102)); have n5_ := Aside0.mk ((by rw [hg]; exact Nat.ne_of_lt (blk_lt (g := gb101) (o := .cells #[.string a0_0, .int .i64 a0_1, .int .i64 a0_2, .int .i64 a0_3, .int .i64 a0_4, .int .i64 a0_5, .int .i64 a0_6, .int .i64 a0_7, .string a0_8, .string a0_9, .int .i64 a0_10] 25 (0, 0)) (by (with_reducible repeat (first | refine blk_drewN ?_ _ | refine blk_drew ?_ | refine blk_alloc ?_ _)); exact BK101.out)) : gb101 ≠ gb102)); have n6_ := Aside0.mk ((by rw [hg]; exact Nat.ne_of_gt (blk_lt (g := gb101) (o := .cells #[.string a0_0, .int .i64 a0_1, .int .i64 a0_2, .int .i64 a0_3, .int .i64 a0_4, .int .i64 a0_5, .int .i64 a0_6, .int .i64 a0_7, .string a0_8, .string a0_9, .int .i64 a0_10] 25 (0, 0)) (by (with_reducible repeat (first | refine blk_drewN ?_ _ | refine blk_drew ?_ | refine blk_alloc ?_ _)); exact BK101.out)) : gb102 ≠ gb101)); clear BK101; clear HB; have BK101 := n0_; have HB := n1_; have BK102 := n2_; have GW102 := n3_; have GE102 := n4_; have NB101_102 := n5_; have NB102_101 := n6_; clear n0_ n1_ n2_ n3_ n4_ n5_ n6_; clear hb hbox hg) | ((with_reducible refine gate_dst (N := 7) rfl ?_); refine box_event ?hg (N := 7) ?hd (cs := #[.int .i64 a3_0, .int .i64 a3_1, .bool a3_2, .bool a3_3, .bool a3_4, .bool a3_5, .bool a3_6, .bool a3_7, .bool a3_8, .bool a3_9, .bool a3_10, .bool a3_11, .bool a3_12, .bool a3_13, .bool a3_14, .bool a3_15, .bool a3_16, .bool a3_17, .int .i64 a3_18, .int .i64 a3_19, .int .i64 a3_20]) (t := 27) ?hr ?_; (case hd => rfl); (case hg => rfl); (case hr => first | (go_simp; done) | (go_simp; rfl)); intro gb103 hg w67 hbox hb; have n0_ := Aside0.mk (blk_below (g := gb101) (o := .cells #[.string a0_0, .int .i64 a0_1, .int .i64 a0_2, .int .i64 a0_3, .int .i64 a0_4, .int .i64 a0_5, .int .i64 a0_6, .int .i64 a0_7, .string a0_8, .string a0_9, .int .i64 a0_10] 25 (0, 0)) (by (with_reducible repeat (first | refine blk_drewN ?_ _ | refine blk_drew ?_ | refine blk_alloc ?_ _)); exact BK101.out) hb); have n1_ := Aside0.mk (blk_below (g := gb102) (o := .cells #[.string a1_0, .int .i64 a1_1, .int .i64 a1_2, .int .i64 a1_3, .int .i64 a1_4, .int .i64 a1_5, .int .i64 a1_6, .int .i64 a1_7, .string a1_8, .string a1_9, .int .i64 a1_10] 25 (0, 0)) (by (with_reducible repeat (first | refine blk_drewN ?_ _ | refine blk_drew ?_ | refine blk_alloc ?_ _)); exact BK102.out) hb); have n2_ := Aside0.mk (below_step (by repeat (first | (with_reducible first | exact HB.out | apply below_alloc | apply pw_below_drewN | apply below_drew1 | refine below_set ?_ GE101.out | refine below_set ?_ GE102.out) | exact HB.out)) hb); have n3_ := Aside0.mk (hbox); have n4_ := Aside0.mk ((by rw [hg]; exact (below_size (by repeat (first | (with_reducible first | exact HB.out | apply below_alloc | apply pw_below_drewN | apply below_drew1 | refine below_set ?_ GE101.out | refine below_set ?_ GE102.out) | exact HB.out))) : w.heap.size ≤ gb103)); have n5_ := Aside0.mk ((by rw [hg]; exact (below_size (by repeat (first | (with_reducible first | exact HB.out | apply below_alloc | apply pw_below_drewN | apply below_drew1 | refine below_set ?_ GE101.out | refine below_set ?_ GE102.out) | exact HB.out))) : w.heap.size ≤ gb103)); have n6_ := Aside0.mk ((by rw [hg]; exact Nat.ne_of_lt (blk_lt (g := gb101) (o := .cells #[.string a0_0, .int .i64 a0_1, .int .i64 a0_2, .int .i64 a0_3, .int .i64 a0_4, .int .i64 a0_5, .int .i64 a0_6, .int .i64 a0_7, .string a0_8, .string a0_9, .int .i64 a0_10] 25 (0, 0)) (by (with_reducible repeat (first | refine blk_drewN ?_ _ | refine blk_drew ?_ | refine blk_alloc ?_ _)); exact BK101.out)) : gb101 ≠ gb103)); have n7_ := Aside0.mk ((by rw [hg]; exact Nat.ne_of_gt (blk_lt (g := gb101) (o := .cells #[.string a0_0, .int .i64 a0_1, .int .i64 a0_2, .int .i64 a0_3, .int .i64 a0_4, .int .i64 a0_5, .int .i64 a0_6, .int .i64 a0_7, .string a0_8, .string a0_9, .int .i64 a0_10] 25 (0, 0)) (by (with_reducible repeat (first | refine blk_drewN ?_ _ | refine blk_drew ?_ | refine blk_alloc ?_ _)); exact BK101.out)) : gb103 ≠ gb101)); have n8_ := Aside0.mk ((by rw [hg]; exact Nat.ne_of_lt (blk_lt (g := gb102) (o := .cells #[.string a1_0, .int .i64 a1_1, .int .i64 a1_2, .int .i64 a1_3, .int .i64 a1_4, .int .i64 a1_5, .int .i64 a1_6, .int .i64 a1_7, .string a1_8, .string a1_9, .int .i64 a1_10] 25 (0, 0)) (by (with_reducible repeat (first | refine blk_drewN ?_ _ | refine blk_drew ?_ | refine blk_alloc ?_ _)); exact BK102.out)) : gb102 ≠ gb103)); have n9_ := Aside0.mk ((by rw [hg]; exact Nat.ne_of_gt (blk_lt (g := gb102) (o := .cells #[.string a1_0, .int .i64 a1_1, .int .i64 a1_2, .int .i64 a1_3, .int .i64 a1_4, .int .i64 a1_5, .int .i64 a1_6, .int .i64 a1_7, .string a1_8, .string a1_9, .int .i64 a1_10] 25 (0, 0)) (by (with_reducible repeat (first | refine blk_drewN ?_ _ | refine blk_drew ?_ | refine blk_alloc ?_ _)); exact BK102.out)) : gb103 ≠ gb102)); clear BK101; clear BK102; clear HB; have BK101 := n0_; have BK102 := n1_; have HB := n2_; have BK103 := n3_; have GW103 := n4_; have GE103 := n5_; have NB101_103 := n6_; have NB103_101 := n7_; have NB102_103 := n8_; have NB103_102 := n9_; clear n0_ n1_ n2_ n3_ n4_ n5_ n6_ n7_ n8_ n9_; clear hb hbox hg; have hnb68 := NB103_101.out; have hnc68 := NB101_103.out; have hnb69 := NB103_102.out; have hnc69 := NB102_103.out; have hcz70_0 : w67.cell? ⟨gb103, 0, none⟩ = some (.int .i64 a3_0) := (blk_cell BK103.out 0).trans rfl; have hcz70_1 : w67.cell? ⟨gb103, 1, none⟩ = some (.int .i64 a3_1) := (blk_cell BK103.out 1).trans rfl; have hcz70_2 : w67.cell? ⟨gb103, 2, none⟩ = some (.bool a3_2) := (blk_cell BK103.out 2).trans rfl; have hcz70_3 : w67.cell? ⟨gb103, 3, none⟩ = some (.bool a3_3) := (blk_cell BK103.out 3).trans rfl; have hcz70_4 : w67.cell? ⟨gb103, 4, none⟩ = some (.bool a3_4) := (blk_cell BK103.out 4).trans rfl; have hcz70_5 : w67.cell? ⟨gb103, 5, none⟩ = some (.bool a3_5) := (blk_cell BK103.out 5).trans rfl; have hcz70_6 : w67.cell? ⟨gb103, 6, none⟩ = some (.bool a3_6) := (blk_cell BK103.out 6).trans rfl; have hcz70_7 : w67.cell? ⟨gb103, 7, none⟩ = some (.bool a3_7) := (blk_cell BK103.out 7).trans rfl; have hcz70_8 : w67.cell? ⟨gb103, 8, none⟩ = some (.bool a3_8) := (blk_cell BK103.out 8).trans rfl; have hcz70_9 : w67.cell? ⟨gb103, 9, none⟩ = some (.bool a3_9) := (blk_cell BK103.out 9).trans rfl; have hcz70_10 : w67.cell? ⟨gb103, 10, none⟩ = some (.bool a3_10) := (blk_cell BK103.out 10).trans rfl; have hcz70_11 : w67.cell? ⟨gb103, 11, none⟩ = some (.bool a3_11) := (blk_cell BK103.out 11).trans rfl; have hcz70_12 : w67.cell? ⟨gb103, 12, none⟩ = some (.bool a3_12) := (blk_cell BK103.out 12).trans rfl; have hcz70_13 : w67.cell? ⟨gb103, 13, none⟩ = some (.bool a3_13) := (blk_cell BK103.out 13).trans rfl; have hcz70_14 : w67.cell? ⟨gb103, 14, none⟩ = some (.bool a3_14) := (blk_cell BK103.out 14).trans rfl; have hcz70_15 : w67.cell? ⟨gb103, 15, none⟩ = some (.bool a3_15) := (blk_cell BK103.out 15).trans rfl; have hcz70_16 : w67.cell? ⟨gb103, 16, none⟩ = some (.bool a3_16) := (blk_cell BK103.out 16).trans rfl; have hcz70_17 : w67.cell? ⟨gb103, 17, none⟩ = some (.bool a3_17) := (blk_cell BK103.out 17).trans rfl; have hcz70_18 : w67.cell? ⟨gb103, 18, none⟩ = some (.int .i64 a3_18) := (blk_cell BK103.out 18).trans rfl; have hcz70_19 : w67.cell? ⟨gb103, 19, none⟩ = some (.int .i64 a3_19) := (blk_cell BK103.out 19).trans rfl; have hcz70_20 : w67.cell? ⟨gb103, 20, none⟩ = some (.int .i64 a3_20) := (blk_cell BK103.out 20).trans rfl; have hfz70_0 := blk_frozen BK103.out 0; have hfz70_1 := blk_frozen BK103.out 1; have hfz70_2 := blk_frozen BK103.out 2; have hfz70_3 := blk_frozen BK103.out 3; have hfz70_4 := blk_frozen BK103.out 4; have hfz70_5 := blk_frozen BK103.out 5; have hfz70_6 := blk_frozen BK103.out 6; have hfz70_7 := blk_frozen BK103.out 7; have hfz70_8 := blk_frozen BK103.out 8; have hfz70_9 := blk_frozen BK103.out 9; have hfz70_10 := blk_frozen BK103.out 10; have hfz70_11 := blk_frozen BK103.out 11; have hfz70_12 := blk_frozen BK103.out 12; have hfz70_13 := blk_frozen BK103.out 13; have hfz70_14 := blk_frozen BK103.out 14; have hfz70_15 := blk_frozen BK103.out 15; have hfz70_16 := blk_frozen BK103.out 16; have hfz70_17 := blk_frozen BK103.out 17; have hfz70_18 := blk_frozen BK103.out 18; have hfz70_19 := blk_frozen BK103.out 19; have hfz70_20 := blk_frozen BK103.out 20))
    go_ret
    exact ⟨by first | rfl | (simp [errW_none, errW_some] <;> rfl) | (simp [*, errW_none, errW_some] <;> rfl), by repeat (first | (with_reducible first | exact HB.out | apply below_alloc | apply pw_below_drewN | apply below_drew1 | refine below_set ?_ GE101.out | refine below_set ?_ GE102.out | refine below_set ?_ GE103.out) | exact HB.out)⟩

end Go.Proofs.Ytniedfbchcgaoaa.PA
