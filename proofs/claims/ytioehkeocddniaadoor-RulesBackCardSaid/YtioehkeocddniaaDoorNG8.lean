/- Plain: rules checked, and printed, by the code and by the reference. -/
import Derived.Test.YtioehkeocddniaaDoorNG1
import Derived.Test.YtioehkeocddniaaDoorNG2
import Derived.Test.YtioehkeocddniaaDoorNG5
namespace Go.Proofs.YtioehkeocddniaaDoor.PA
open Go.RowKit Go.Proofs.YtioehkeocddniaaDoorW.PrintWords Go.Proofs.YtioehkeocddniaaDoorW.PrintLast Go.Proofs.YtioehkeocddniaaDoorW.PrintMore
attribute [local go_sem] max2_int min2_int max_two min_two max_three min_three max_four min_four   -- for this text's walks alone
set_option linter.unusedVariables false
set_option linter.unusedSimpArgs false
def rules_Check.l0 : Nat → List (S24) → Int → Int → Option (Int)
 | 0, _, _, _ => none
 | k + 1, x9, x10, x11 => if x11 < x10 then (if 0 ≤ x11 then (if x11 < (x9.length : Int) then ((rules_check.f ((rd_T24 x9 x11).f0) ((rd_T24 x9 x11).f1) ((rd_T24 x9 x11).f2) ((rd_T24 x9 x11).f3)).bind fun t103 => (if t103 = 0 then (rules_Check.l0 k x9 x10 (wrap64 (x11 + 1))) else (some t103))) else (none)) else (none)) else (some 0)
def rules_Check.f (k : Nat) (l0 : List (S24)) : Option (Int) := if (l0.length : Int) > 64 then (some 7) else (rules_Check.l0 k l0 (l0.length : Int) 0)
set_option maxHeartbeats 8000000 in
set_option maxRecDepth 100000 in
theorem rules_Check.calls (k : Nat) (A0 : Option Addr) (c0 : Nat) (l0 : List (S24)) (r : Int) (w : World) (hr0 : Kd.C k24 w A0 l0.length l0) (hc0 : l0.length ≤ c0) (h : rules_Check.f k l0 = some r) :
  Calls Tryd.prog 26 #[.slice A0 l0.length c0] w fun e w' => e = .returned (.int .i64 r) ∧ Below w.heap.size w w' := by
 have hu24 := Tryd.underlying24
 have HR0 := Aside0.mk hr0
 have HC0 := Aside0.mk hc0
 clear hr0 hc0
 have HB := Aside0.mk (Below.refl w.heap.size w)
 have H : (if (l0.length : Int) > 64 then (some 7) else (rules_Check.l0 k l0 (l0.length : Int) 0)) = some r := h
 clear h
 by_cases c2 : (l0.length : Int) > 64
 ·rw [if_pos c2] at H
  have c2b0 : decide (64 < (l0.length : Int)) = true := decide_eq_true c2
  have c2b1 : decide (64 < l0.length) = true := decide_eq_true (by omega)
  clear c2
  obtain rfl := Option.some.inj H
  go_enter Tryd.func26, Tryd.ntmps26
  go_wp2
  go_ret
  exact ⟨by first | rfl | (simp [errW_none, errW_some] <;> rfl) | (simp [*, errW_none, errW_some] <;> rfl), by repeat (first | (with_reducible first | exact HB.out | apply below_alloc | apply pw_below_drewN | apply below_drew1) | exact HB.out)⟩
 ·rw [if_neg c2] at H
  have c2b0 : decide (64 < (l0.length : Int)) = false := decide_eq_false c2
  have c2b1 : decide (64 < l0.length) = false := decide_eq_false (by omega)
  clear c2
  have H' := Aside0.mk H
  clear H
  go_enter Tryd.func26, Tryd.ntmps26
  go_wp2
  go_loopg [11] k (fun kq v11 w' => ∃ (x11_1 : Int), v11 = .int .i64 x11_1 ∧ Aside0 (rules_Check.l0 kq l0 (l0.length : Int) x11_1 = some r) ∧ Aside0 (kq ≤ k) ∧ Aside0 (Below w.heap.size w w'))
  case atStart => exact ⟨(0), (by first | rfl | (simp; done) | (simp [*]; done)), H', ⟨Nat.le_refl _⟩, ⟨by repeat (first | (with_reducible first | exact HB.out | apply below_alloc | apply pw_below_drewN | apply below_drew1) | exact HB.out)⟩⟩
  case round =>
   clear H'
   try clear c2
   try clear c2b0
   try clear c2b1
   try clear p2
   obtain ⟨x11_1, rfl, HA, HK1, HB⟩ := hrel
   cases gk with
   | zero => exact absurd HA.out (by simp [rules_Check.l0])
   | succ k1 =>
    have H := HA.out
    clear HA
    simp only [rules_Check.l0] at H
    by_cases c3 : x11_1 < (l0.length : Int)
    ·rw [if_pos c3] at H
     have c3b0 : decide (x11_1 < (l0.length : Int)) = true := decide_eq_true c3
     clear c3
     by_cases c4 : 0 ≤ x11_1
     ·rw [if_pos c4] at H
      have c4b0 : decide (0 ≤ x11_1) = true := decide_eq_true c4
      clear c4
      by_cases c5 : x11_1 < (l0.length : Int)
      ·rw [if_pos c5] at H
       have c5b0 : decide (x11_1 < (l0.length : Int)) = true := decide_eq_true c5
       clear c5
       replace H := Option.bind_eq_some_iff.mp H
       obtain ⟨t103, A60, H⟩ := H
       replace H : (if t103 = 0 then (rules_Check.l0 k1 l0 (l0.length : Int) (wrap64 (x11_1 + 1))) else (some t103)) = some r := H
       have A6 := Aside0.mk A60
       clear A60
       by_cases c7 : t103 = 0
       ·rw [if_pos c7] at H
        have c7b0 : (t103 == 0) = true := beq_iff_eq.mpr c7
        have c7b1 : (t103 != 0) = false := bne_eq_false_iff_eq.mpr c7
        clear c7
        have H' := Aside0.mk H
        clear H
        have p101 : 0 ≤ (x11_1 : Int) := of_decide_eq_true (by first | (with_reducible assumption) | assumption)
        have q101 : x11_1 < (l0.length : Int) := of_decide_eq_true (by first | (with_reducible assumption) | assumption)
        obtain ⟨ad101, e101, hx101_0, hx101_1, hx101_2, hx101_3⟩ := at_T24 HR0.out x11_1 p101 q101
        cases e101
        replace hx101_0 := (HB.out.cell (World.block_lt_of_cell? w _ hx101_0)).trans hx101_0
        replace hx101_1 := (HB.out.cell (World.block_lt_of_cell? w _ hx101_1)).trans hx101_1
        replace hx101_2 := (HB.out.cell (World.block_lt_of_cell? w _ hx101_2)).trans hx101_2
        replace hx101_3 := (HB.out.cell (World.block_lt_of_cell? w _ hx101_3)).trans hx101_3
        replace p101 := eq_true p101
        replace q101 := eq_true q101
        go_wp2_with (first | ((with_reducible refine gate_dst (N := 4) rfl ?_); refine box_event ?hg (N := 4) ?hd (cs := #[.int .i64 0, .string (⟨#[]⟩ : ByteArray), .bool false, .bool false]) (t := 24) ?hr ?_; (case hd => rfl); (case hg => rfl); (case hr => first | (go_simp; done) | (go_simp; rfl)); intro gb102 hg w8 hbox hb; have n0_ := Aside0.mk (below_step (by repeat (first | (with_reducible first | exact HB.out | apply below_alloc | apply pw_below_drewN | apply below_drew1) | exact HB.out)) hb); have n1_ := Aside0.mk (hbox); have n2_ := Aside0.mk ((by rw [hg]; exact (below_size (by repeat (first | (with_reducible first | exact HB.out | apply below_alloc | apply pw_below_drewN | apply below_drew1) | exact HB.out))) : w.heap.size ≤ gb102)); have n3_ := Aside0.mk ((by rw [hg]; exact (below_size (by repeat (first | (with_reducible first | exact HB.out | apply below_alloc | apply pw_below_drewN | apply below_drew1) | exact HB.out))) : w.heap.size ≤ gb102)); clear HB; have HB := n0_; have BK102 := n1_; have GW102 := n2_; have GE102 := n3_; clear n0_ n1_ n2_ n3_; clear hb hbox hg; have hcz9_0 : w8.cell? ⟨gb102, 0, none⟩ = some (.int .i64 0) := (blk_cell BK102.out 0).trans rfl; have hcz9_1 : w8.cell? ⟨gb102, 1, none⟩ = some (.string (⟨#[]⟩ : ByteArray)) := (blk_cell BK102.out 1).trans rfl; have hcz9_2 : w8.cell? ⟨gb102, 2, none⟩ = some (.bool false) := (blk_cell BK102.out 2).trans rfl; have hcz9_3 : w8.cell? ⟨gb102, 3, none⟩ = some (.bool false) := (blk_cell BK102.out 3).trans rfl; have hfz9_0 := blk_frozen BK102.out 0; have hfz9_1 := blk_frozen BK102.out 1; have hfz9_2 := blk_frozen BK102.out 2; have hfz9_3 := blk_frozen BK102.out 3) | ((with_reducible refine gate_callee (f := 39) rfl ?_); refine goesL_ (some 16) rfl rfl Tryd.func39 (by kernel_rfl) rfl #[.agg #[.int .i64 ((rd_T24 l0 x11_1).f0), .string ((rd_T24 l0 x11_1).f1), .bool ((rd_T24 l0 x11_1).f2), .bool ((rd_T24 l0 x11_1).f3)]] rfl (by (try simp only [List.map_toArray, List.map_cons, List.map_nil]); first | done | rfl | (simp only [List.length_drop, List.length_take]; rfl)) ?_; (with_reducible refine (rules_check.calls ((rd_T24 l0 x11_1).f0) ((rd_T24 l0 x11_1).f1) ((rd_T24 l0 x11_1).f2) ((rd_T24 l0 x11_1).f3) t103 _ A6.out).mono ?_); rintro e w10 ⟨rfl, hb⟩; refine ⟨_, rfl, ?_⟩; have n0_ := Aside0.mk (blk_below (g := gb102) (o := .cells #[.int .i64 ((rd_T24 l0 x11_1).f0), .string ((rd_T24 l0 x11_1).f1), .bool ((rd_T24 l0 x11_1).f2), .bool ((rd_T24 l0 x11_1).f3)] 24 (0, 0)) (by (with_reducible repeat (first | refine blk_drewN ?_ _ | refine blk_drew ?_ | refine blk_alloc ?_ _)); refine blk_put (cs := #[.int .i64 ((rd_T24 l0 x11_1).f0), .string ((rd_T24 l0 x11_1).f1), .bool ((rd_T24 l0 x11_1).f2), .bool false]) ?_ 3 _ rfl; (with_reducible repeat (first | refine blk_drewN ?_ _ | refine blk_drew ?_ | refine blk_alloc ?_ _)); refine blk_put (cs := #[.int .i64 ((rd_T24 l0 x11_1).f0), .string ((rd_T24 l0 x11_1).f1), .bool false, .bool false]) ?_ 2 _ rfl; (with_reducible repeat (first | refine blk_drewN ?_ _ | refine blk_drew ?_ | refine blk_alloc ?_ _)); refine blk_put (cs := #[.int .i64 ((rd_T24 l0 x11_1).f0), .string (⟨#[]⟩ : ByteArray), .bool false, .bool false]) ?_ 1 _ rfl; (with_reducible repeat (first | refine blk_drewN ?_ _ | refine blk_drew ?_ | refine blk_alloc ?_ _)); refine blk_put (cs := #[.int .i64 0, .string (⟨#[]⟩ : ByteArray), .bool false, .bool false]) ?_ 0 _ rfl; (with_reducible repeat (first | refine blk_drewN ?_ _ | refine blk_drew ?_ | refine blk_alloc ?_ _)); exact BK102.out) hb); have n1_ := Aside0.mk (below_step (by repeat (first | (with_reducible first | exact HB.out | apply below_alloc | apply pw_below_drewN | apply below_drew1 | refine below_set ?_ GE102.out) | exact HB.out)) hb); clear BK102; clear HB; have BK102 := n0_; have HB := n1_; clear n0_ n1_; (try clear hb); (try clear hb2); (try clear hk); (try clear hi)))
        go_roundg k1
        case measure => have := HK1.out; omega
        case rel => exact ⟨(wrap64 (x11_1 + 1)), (by first | rfl | (simp; done) | (simp [*]; done)), H', ⟨by have := HK1.out; omega⟩, ⟨by repeat (first | (with_reducible first | exact HB.out | apply below_alloc | apply pw_below_drewN | apply below_drew1 | refine below_set ?_ GE102.out) | exact HB.out)⟩⟩
       ·rw [if_neg c7] at H
        have c7b0 : (t103 == 0) = false := beq_eq_false_iff_ne.mpr c7
        have c7b1 : (t103 != 0) = true := bne_iff_ne.mpr c7
        obtain rfl := Option.some.inj H
        have p101 : 0 ≤ (x11_1 : Int) := of_decide_eq_true (by first | (with_reducible assumption) | assumption)
        have q101 : x11_1 < (l0.length : Int) := of_decide_eq_true (by first | (with_reducible assumption) | assumption)
        obtain ⟨ad101, e101, hx101_0, hx101_1, hx101_2, hx101_3⟩ := at_T24 HR0.out x11_1 p101 q101
        cases e101
        replace hx101_0 := (HB.out.cell (World.block_lt_of_cell? w _ hx101_0)).trans hx101_0
        replace hx101_1 := (HB.out.cell (World.block_lt_of_cell? w _ hx101_1)).trans hx101_1
        replace hx101_2 := (HB.out.cell (World.block_lt_of_cell? w _ hx101_2)).trans hx101_2
        replace hx101_3 := (HB.out.cell (World.block_lt_of_cell? w _ hx101_3)).trans hx101_3
        replace p101 := eq_true p101
        replace q101 := eq_true q101
        go_wp2_with (first | ((with_reducible refine gate_dst (N := 4) rfl ?_); refine box_event ?hg (N := 4) ?hd (cs := #[.int .i64 0, .string (⟨#[]⟩ : ByteArray), .bool false, .bool false]) (t := 24) ?hr ?_; (case hd => rfl); (case hg => rfl); (case hr => first | (go_simp; done) | (go_simp; rfl)); intro gb102 hg w11 hbox hb; have n0_ := Aside0.mk (below_step (by repeat (first | (with_reducible first | exact HB.out | apply below_alloc | apply pw_below_drewN | apply below_drew1) | exact HB.out)) hb); have n1_ := Aside0.mk (hbox); have n2_ := Aside0.mk ((by rw [hg]; exact (below_size (by repeat (first | (with_reducible first | exact HB.out | apply below_alloc | apply pw_below_drewN | apply below_drew1) | exact HB.out))) : w.heap.size ≤ gb102)); have n3_ := Aside0.mk ((by rw [hg]; exact (below_size (by repeat (first | (with_reducible first | exact HB.out | apply below_alloc | apply pw_below_drewN | apply below_drew1) | exact HB.out))) : w.heap.size ≤ gb102)); clear HB; have HB := n0_; have BK102 := n1_; have GW102 := n2_; have GE102 := n3_; clear n0_ n1_ n2_ n3_; clear hb hbox hg; have hcz12_0 : w11.cell? ⟨gb102, 0, none⟩ = some (.int .i64 0) := (blk_cell BK102.out 0).trans rfl; have hcz12_1 : w11.cell? ⟨gb102, 1, none⟩ = some (.string (⟨#[]⟩ : ByteArray)) := (blk_cell BK102.out 1).trans rfl; have hcz12_2 : w11.cell? ⟨gb102, 2, none⟩ = some (.bool false) := (blk_cell BK102.out 2).trans rfl; have hcz12_3 : w11.cell? ⟨gb102, 3, none⟩ = some (.bool false) := (blk_cell BK102.out 3).trans rfl; have hfz12_0 := blk_frozen BK102.out 0; have hfz12_1 := blk_frozen BK102.out 1; have hfz12_2 := blk_frozen BK102.out 2; have hfz12_3 := blk_frozen BK102.out 3) | ((with_reducible refine gate_callee (f := 39) rfl ?_); refine goesL_ (some 16) rfl rfl Tryd.func39 (by kernel_rfl) rfl #[.agg #[.int .i64 ((rd_T24 l0 x11_1).f0), .string ((rd_T24 l0 x11_1).f1), .bool ((rd_T24 l0 x11_1).f2), .bool ((rd_T24 l0 x11_1).f3)]] rfl (by (try simp only [List.map_toArray, List.map_cons, List.map_nil]); first | done | rfl | (simp only [List.length_drop, List.length_take]; rfl)) ?_; (with_reducible refine (rules_check.calls ((rd_T24 l0 x11_1).f0) ((rd_T24 l0 x11_1).f1) ((rd_T24 l0 x11_1).f2) ((rd_T24 l0 x11_1).f3) t103 _ A6.out).mono ?_); rintro e w13 ⟨rfl, hb⟩; refine ⟨_, rfl, ?_⟩; have n0_ := Aside0.mk (blk_below (g := gb102) (o := .cells #[.int .i64 ((rd_T24 l0 x11_1).f0), .string ((rd_T24 l0 x11_1).f1), .bool ((rd_T24 l0 x11_1).f2), .bool ((rd_T24 l0 x11_1).f3)] 24 (0, 0)) (by (with_reducible repeat (first | refine blk_drewN ?_ _ | refine blk_drew ?_ | refine blk_alloc ?_ _)); refine blk_put (cs := #[.int .i64 ((rd_T24 l0 x11_1).f0), .string ((rd_T24 l0 x11_1).f1), .bool ((rd_T24 l0 x11_1).f2), .bool false]) ?_ 3 _ rfl; (with_reducible repeat (first | refine blk_drewN ?_ _ | refine blk_drew ?_ | refine blk_alloc ?_ _)); refine blk_put (cs := #[.int .i64 ((rd_T24 l0 x11_1).f0), .string ((rd_T24 l0 x11_1).f1), .bool false, .bool false]) ?_ 2 _ rfl; (with_reducible repeat (first | refine blk_drewN ?_ _ | refine blk_drew ?_ | refine blk_alloc ?_ _)); refine blk_put (cs := #[.int .i64 ((rd_T24 l0 x11_1).f0), .string (⟨#[]⟩ : ByteArray), .bool false, .bool false]) ?_ 1 _ rfl; (with_reducible repeat (first | refine blk_drewN ?_ _ | refine blk_drew ?_ | refine blk_alloc ?_ _)); refine blk_put (cs := #[.int .i64 0, .string (⟨#[]⟩ : ByteArray), .bool false, .bool false]) ?_ 0 _ rfl; (with_reducible repeat (first | refine blk_drewN ?_ _ | refine blk_drew ?_ | refine blk_alloc ?_ _)); exact BK102.out) hb); have n1_ := Aside0.mk (below_step (by repeat (first | (with_reducible first | exact HB.out | apply below_alloc | apply pw_below_drewN | apply below_drew1 | refine below_set ?_ GE102.out) | exact HB.out)) hb); clear BK102; clear HB; have BK102 := n0_; have HB := n1_; clear n0_ n1_; (try clear hb); (try clear hb2); (try clear hk); (try clear hi)))
        go_ret
        exact ⟨by first | rfl | (simp [errW_none, errW_some] <;> rfl) | (simp [*, errW_none, errW_some] <;> rfl), by repeat (first | (with_reducible first | exact HB.out | apply below_alloc | apply pw_below_drewN | apply below_drew1 | refine below_set ?_ GE102.out) | exact HB.out)⟩
      ·rw [if_neg c5] at H
       exact absurd H (by simp)
     ·rw [if_neg c4] at H
      exact absurd H (by simp)
    ·rw [if_neg c3] at H
     have c3b0 : decide (x11_1 < (l0.length : Int)) = false := decide_eq_false c3
     clear c3
     obtain rfl := Option.some.inj H
     go_wp2
     go_ret
     exact ⟨by first | rfl | (simp [errW_none, errW_some] <;> rfl) | (simp [*, errW_none, errW_some] <;> rfl), by repeat (first | (with_reducible first | exact HB.out | apply below_alloc | apply pw_below_drewN | apply below_drew1) | exact HB.out)⟩
end Go.Proofs.YtioehkeocddniaaDoor.PA
namespace Go.Proofs.YtioehkeocddniaaDoor.PA
open Go.RowKit Go.Proofs.YtioehkeocddniaaDoorW.PrintWords Go.Proofs.YtioehkeocddniaaDoorW.PrintLast Go.Proofs.YtioehkeocddniaaDoorW.PrintMore
attribute [local go_sem] max2_int min2_int max_two min_two max_three min_three max_four min_four   -- for this text's walks alone
set_option linter.unusedVariables false
set_option linter.unusedSimpArgs false
def remoraref15_Check.l0 : Nat → List (S24) → Int → Int → Option (Int)
 | 0, _, _, _ => none
 | k + 1, x9, x10, x11 => if x11 < x10 then (if 0 ≤ x11 then (if x11 < (x9.length : Int) then ((remoraref15_one.f k ((rd_T24 x9 x11).f0) ((rd_T24 x9 x11).f1) ((rd_T24 x9 x11).f2) ((rd_T24 x9 x11).f3)).bind fun t103 => (if t103 = 0 then (remoraref15_Check.l0 k x9 x10 (wrap64 (x11 + 1))) else (some t103))) else (none)) else (none)) else (some 0)
def remoraref15_Check.f (k : Nat) (l0 : List (S24)) : Option (Int) := if (l0.length : Int) > 64 then (some 7) else (remoraref15_Check.l0 k l0 (l0.length : Int) 0)
set_option maxHeartbeats 8000000 in
set_option maxRecDepth 100000 in
theorem remoraref15_Check.calls (k : Nat) (A0 : Option Addr) (c0 : Nat) (l0 : List (S24)) (r : Int) (w : World) (hr0 : Kd.C k24 w A0 l0.length l0) (hc0 : l0.length ≤ c0) (h : remoraref15_Check.f k l0 = some r) :
  Calls Tryd.prog 33 #[.slice A0 l0.length c0] w fun e w' => e = .returned (.int .i64 r) ∧ Below w.heap.size w w' := by
 have hu24 := Tryd.underlying24
 have HR0 := Aside0.mk hr0
 have HC0 := Aside0.mk hc0
 clear hr0 hc0
 have HB := Aside0.mk (Below.refl w.heap.size w)
 have H : (if (l0.length : Int) > 64 then (some 7) else (remoraref15_Check.l0 k l0 (l0.length : Int) 0)) = some r := h
 clear h
 by_cases c2 : (l0.length : Int) > 64
 ·rw [if_pos c2] at H
  have c2b0 : decide (64 < (l0.length : Int)) = true := decide_eq_true c2
  have c2b1 : decide (64 < l0.length) = true := decide_eq_true (by omega)
  clear c2
  obtain rfl := Option.some.inj H
  go_enter Tryd.func33, Tryd.ntmps33
  go_wp2
  go_ret
  exact ⟨by first | rfl | (simp [errW_none, errW_some] <;> rfl) | (simp [*, errW_none, errW_some] <;> rfl), by repeat (first | (with_reducible first | exact HB.out | apply below_alloc | apply pw_below_drewN | apply below_drew1) | exact HB.out)⟩
 ·rw [if_neg c2] at H
  have c2b0 : decide (64 < (l0.length : Int)) = false := decide_eq_false c2
  have c2b1 : decide (64 < l0.length) = false := decide_eq_false (by omega)
  clear c2
  have H' := Aside0.mk H
  clear H
  go_enter Tryd.func33, Tryd.ntmps33
  go_wp2
  go_loopg [11] k (fun kq v11 w' => ∃ (x11_1 : Int), v11 = .int .i64 x11_1 ∧ Aside0 (remoraref15_Check.l0 kq l0 (l0.length : Int) x11_1 = some r) ∧ Aside0 (kq ≤ k) ∧ Aside0 (Below w.heap.size w w'))
  case atStart => exact ⟨(0), (by first | rfl | (simp; done) | (simp [*]; done)), H', ⟨Nat.le_refl _⟩, ⟨by repeat (first | (with_reducible first | exact HB.out | apply below_alloc | apply pw_below_drewN | apply below_drew1) | exact HB.out)⟩⟩
  case round =>
   clear H'
   try clear c2
   try clear c2b0
   try clear c2b1
   try clear p2
   obtain ⟨x11_1, rfl, HA, HK1, HB⟩ := hrel
   cases gk with
   | zero => exact absurd HA.out (by simp [remoraref15_Check.l0])
   | succ k1 =>
    have H := HA.out
    clear HA
    simp only [remoraref15_Check.l0] at H
    by_cases c3 : x11_1 < (l0.length : Int)
    ·rw [if_pos c3] at H
     have c3b0 : decide (x11_1 < (l0.length : Int)) = true := decide_eq_true c3
     clear c3
     by_cases c4 : 0 ≤ x11_1
     ·rw [if_pos c4] at H
      have c4b0 : decide (0 ≤ x11_1) = true := decide_eq_true c4
      clear c4
      by_cases c5 : x11_1 < (l0.length : Int)
      ·rw [if_pos c5] at H
       have c5b0 : decide (x11_1 < (l0.length : Int)) = true := decide_eq_true c5
       clear c5
       replace H := Option.bind_eq_some_iff.mp H
       obtain ⟨t103, A60, H⟩ := H
       replace H : (if t103 = 0 then (remoraref15_Check.l0 k1 l0 (l0.length : Int) (wrap64 (x11_1 + 1))) else (some t103)) = some r := H
       have A6 := Aside0.mk A60
       clear A60
       by_cases c7 : t103 = 0
       ·rw [if_pos c7] at H
        have c7b0 : (t103 == 0) = true := beq_iff_eq.mpr c7
        have c7b1 : (t103 != 0) = false := bne_eq_false_iff_eq.mpr c7
        clear c7
        have H' := Aside0.mk H
        clear H
        have p101 : 0 ≤ (x11_1 : Int) := of_decide_eq_true (by first | (with_reducible assumption) | assumption)
        have q101 : x11_1 < (l0.length : Int) := of_decide_eq_true (by first | (with_reducible assumption) | assumption)
        obtain ⟨ad101, e101, hx101_0, hx101_1, hx101_2, hx101_3⟩ := at_T24 HR0.out x11_1 p101 q101
        cases e101
        replace hx101_0 := (HB.out.cell (World.block_lt_of_cell? w _ hx101_0)).trans hx101_0
        replace hx101_1 := (HB.out.cell (World.block_lt_of_cell? w _ hx101_1)).trans hx101_1
        replace hx101_2 := (HB.out.cell (World.block_lt_of_cell? w _ hx101_2)).trans hx101_2
        replace hx101_3 := (HB.out.cell (World.block_lt_of_cell? w _ hx101_3)).trans hx101_3
        replace p101 := eq_true p101
        replace q101 := eq_true q101
        go_wp2_with (first | ((with_reducible refine gate_dst (N := 4) rfl ?_); refine box_event ?hg (N := 4) ?hd (cs := #[.int .i64 0, .string (⟨#[]⟩ : ByteArray), .bool false, .bool false]) (t := 24) ?hr ?_; (case hd => rfl); (case hg => rfl); (case hr => first | (go_simp; done) | (go_simp; rfl)); intro gb102 hg w8 hbox hb; have n0_ := Aside0.mk (below_step (by repeat (first | (with_reducible first | exact HB.out | apply below_alloc | apply pw_below_drewN | apply below_drew1) | exact HB.out)) hb); have n1_ := Aside0.mk (hbox); have n2_ := Aside0.mk ((by rw [hg]; exact (below_size (by repeat (first | (with_reducible first | exact HB.out | apply below_alloc | apply pw_below_drewN | apply below_drew1) | exact HB.out))) : w.heap.size ≤ gb102)); have n3_ := Aside0.mk ((by rw [hg]; exact (below_size (by repeat (first | (with_reducible first | exact HB.out | apply below_alloc | apply pw_below_drewN | apply below_drew1) | exact HB.out))) : w.heap.size ≤ gb102)); clear HB; have HB := n0_; have BK102 := n1_; have GW102 := n2_; have GE102 := n3_; clear n0_ n1_ n2_ n3_; clear hb hbox hg; have hcz9_0 : w8.cell? ⟨gb102, 0, none⟩ = some (.int .i64 0) := (blk_cell BK102.out 0).trans rfl; have hcz9_1 : w8.cell? ⟨gb102, 1, none⟩ = some (.string (⟨#[]⟩ : ByteArray)) := (blk_cell BK102.out 1).trans rfl; have hcz9_2 : w8.cell? ⟨gb102, 2, none⟩ = some (.bool false) := (blk_cell BK102.out 2).trans rfl; have hcz9_3 : w8.cell? ⟨gb102, 3, none⟩ = some (.bool false) := (blk_cell BK102.out 3).trans rfl; have hfz9_0 := blk_frozen BK102.out 0; have hfz9_1 := blk_frozen BK102.out 1; have hfz9_2 := blk_frozen BK102.out 2; have hfz9_3 := blk_frozen BK102.out 3) | ((with_reducible refine gate_callee (f := 40) rfl ?_); refine goesL_ (some 16) rfl rfl Tryd.func40 (by kernel_rfl) rfl #[.agg #[.int .i64 ((rd_T24 l0 x11_1).f0), .string ((rd_T24 l0 x11_1).f1), .bool ((rd_T24 l0 x11_1).f2), .bool ((rd_T24 l0 x11_1).f3)]] rfl (by (try simp only [List.map_toArray, List.map_cons, List.map_nil]); first | done | rfl | (simp only [List.length_drop, List.length_take]; rfl)) ?_; (with_reducible refine (remoraref15_one.calls k1 ((rd_T24 l0 x11_1).f0) ((rd_T24 l0 x11_1).f1) ((rd_T24 l0 x11_1).f2) ((rd_T24 l0 x11_1).f3) t103 _ A6.out).mono ?_); rintro e w10 ⟨rfl, hb⟩; refine ⟨_, rfl, ?_⟩; have n0_ := Aside0.mk (blk_below (g := gb102) (o := .cells #[.int .i64 ((rd_T24 l0 x11_1).f0), .string ((rd_T24 l0 x11_1).f1), .bool ((rd_T24 l0 x11_1).f2), .bool ((rd_T24 l0 x11_1).f3)] 24 (0, 0)) (by (with_reducible repeat (first | refine blk_drewN ?_ _ | refine blk_drew ?_ | refine blk_alloc ?_ _)); refine blk_put (cs := #[.int .i64 ((rd_T24 l0 x11_1).f0), .string ((rd_T24 l0 x11_1).f1), .bool ((rd_T24 l0 x11_1).f2), .bool false]) ?_ 3 _ rfl; (with_reducible repeat (first | refine blk_drewN ?_ _ | refine blk_drew ?_ | refine blk_alloc ?_ _)); refine blk_put (cs := #[.int .i64 ((rd_T24 l0 x11_1).f0), .string ((rd_T24 l0 x11_1).f1), .bool false, .bool false]) ?_ 2 _ rfl; (with_reducible repeat (first | refine blk_drewN ?_ _ | refine blk_drew ?_ | refine blk_alloc ?_ _)); refine blk_put (cs := #[.int .i64 ((rd_T24 l0 x11_1).f0), .string (⟨#[]⟩ : ByteArray), .bool false, .bool false]) ?_ 1 _ rfl; (with_reducible repeat (first | refine blk_drewN ?_ _ | refine blk_drew ?_ | refine blk_alloc ?_ _)); refine blk_put (cs := #[.int .i64 0, .string (⟨#[]⟩ : ByteArray), .bool false, .bool false]) ?_ 0 _ rfl; (with_reducible repeat (first | refine blk_drewN ?_ _ | refine blk_drew ?_ | refine blk_alloc ?_ _)); exact BK102.out) hb); have n1_ := Aside0.mk (below_step (by repeat (first | (with_reducible first | exact HB.out | apply below_alloc | apply pw_below_drewN | apply below_drew1 | refine below_set ?_ GE102.out) | exact HB.out)) hb); clear BK102; clear HB; have BK102 := n0_; have HB := n1_; clear n0_ n1_; (try clear hb); (try clear hb2); (try clear hk); (try clear hi)))
        go_roundg k1
        case measure => have := HK1.out; omega
        case rel => exact ⟨(wrap64 (x11_1 + 1)), (by first | rfl | (simp; done) | (simp [*]; done)), H', ⟨by have := HK1.out; omega⟩, ⟨by repeat (first | (with_reducible first | exact HB.out | apply below_alloc | apply pw_below_drewN | apply below_drew1 | refine below_set ?_ GE102.out) | exact HB.out)⟩⟩
       ·rw [if_neg c7] at H
        have c7b0 : (t103 == 0) = false := beq_eq_false_iff_ne.mpr c7
        have c7b1 : (t103 != 0) = true := bne_iff_ne.mpr c7
        obtain rfl := Option.some.inj H
        have p101 : 0 ≤ (x11_1 : Int) := of_decide_eq_true (by first | (with_reducible assumption) | assumption)
        have q101 : x11_1 < (l0.length : Int) := of_decide_eq_true (by first | (with_reducible assumption) | assumption)
        obtain ⟨ad101, e101, hx101_0, hx101_1, hx101_2, hx101_3⟩ := at_T24 HR0.out x11_1 p101 q101
        cases e101
        replace hx101_0 := (HB.out.cell (World.block_lt_of_cell? w _ hx101_0)).trans hx101_0
        replace hx101_1 := (HB.out.cell (World.block_lt_of_cell? w _ hx101_1)).trans hx101_1
        replace hx101_2 := (HB.out.cell (World.block_lt_of_cell? w _ hx101_2)).trans hx101_2
        replace hx101_3 := (HB.out.cell (World.block_lt_of_cell? w _ hx101_3)).trans hx101_3
        replace p101 := eq_true p101
        replace q101 := eq_true q101
        go_wp2_with (first | ((with_reducible refine gate_dst (N := 4) rfl ?_); refine box_event ?hg (N := 4) ?hd (cs := #[.int .i64 0, .string (⟨#[]⟩ : ByteArray), .bool false, .bool false]) (t := 24) ?hr ?_; (case hd => rfl); (case hg => rfl); (case hr => first | (go_simp; done) | (go_simp; rfl)); intro gb102 hg w11 hbox hb; have n0_ := Aside0.mk (below_step (by repeat (first | (with_reducible first | exact HB.out | apply below_alloc | apply pw_below_drewN | apply below_drew1) | exact HB.out)) hb); have n1_ := Aside0.mk (hbox); have n2_ := Aside0.mk ((by rw [hg]; exact (below_size (by repeat (first | (with_reducible first | exact HB.out | apply below_alloc | apply pw_below_drewN | apply below_drew1) | exact HB.out))) : w.heap.size ≤ gb102)); have n3_ := Aside0.mk ((by rw [hg]; exact (below_size (by repeat (first | (with_reducible first | exact HB.out | apply below_alloc | apply pw_below_drewN | apply below_drew1) | exact HB.out))) : w.heap.size ≤ gb102)); clear HB; have HB := n0_; have BK102 := n1_; have GW102 := n2_; have GE102 := n3_; clear n0_ n1_ n2_ n3_; clear hb hbox hg; have hcz12_0 : w11.cell? ⟨gb102, 0, none⟩ = some (.int .i64 0) := (blk_cell BK102.out 0).trans rfl; have hcz12_1 : w11.cell? ⟨gb102, 1, none⟩ = some (.string (⟨#[]⟩ : ByteArray)) := (blk_cell BK102.out 1).trans rfl; have hcz12_2 : w11.cell? ⟨gb102, 2, none⟩ = some (.bool false) := (blk_cell BK102.out 2).trans rfl; have hcz12_3 : w11.cell? ⟨gb102, 3, none⟩ = some (.bool false) := (blk_cell BK102.out 3).trans rfl; have hfz12_0 := blk_frozen BK102.out 0; have hfz12_1 := blk_frozen BK102.out 1; have hfz12_2 := blk_frozen BK102.out 2; have hfz12_3 := blk_frozen BK102.out 3) | ((with_reducible refine gate_callee (f := 40) rfl ?_); refine goesL_ (some 16) rfl rfl Tryd.func40 (by kernel_rfl) rfl #[.agg #[.int .i64 ((rd_T24 l0 x11_1).f0), .string ((rd_T24 l0 x11_1).f1), .bool ((rd_T24 l0 x11_1).f2), .bool ((rd_T24 l0 x11_1).f3)]] rfl (by (try simp only [List.map_toArray, List.map_cons, List.map_nil]); first | done | rfl | (simp only [List.length_drop, List.length_take]; rfl)) ?_; (with_reducible refine (remoraref15_one.calls k1 ((rd_T24 l0 x11_1).f0) ((rd_T24 l0 x11_1).f1) ((rd_T24 l0 x11_1).f2) ((rd_T24 l0 x11_1).f3) t103 _ A6.out).mono ?_); rintro e w13 ⟨rfl, hb⟩; refine ⟨_, rfl, ?_⟩; have n0_ := Aside0.mk (blk_below (g := gb102) (o := .cells #[.int .i64 ((rd_T24 l0 x11_1).f0), .string ((rd_T24 l0 x11_1).f1), .bool ((rd_T24 l0 x11_1).f2), .bool ((rd_T24 l0 x11_1).f3)] 24 (0, 0)) (by (with_reducible repeat (first | refine blk_drewN ?_ _ | refine blk_drew ?_ | refine blk_alloc ?_ _)); refine blk_put (cs := #[.int .i64 ((rd_T24 l0 x11_1).f0), .string ((rd_T24 l0 x11_1).f1), .bool ((rd_T24 l0 x11_1).f2), .bool false]) ?_ 3 _ rfl; (with_reducible repeat (first | refine blk_drewN ?_ _ | refine blk_drew ?_ | refine blk_alloc ?_ _)); refine blk_put (cs := #[.int .i64 ((rd_T24 l0 x11_1).f0), .string ((rd_T24 l0 x11_1).f1), .bool false, .bool false]) ?_ 2 _ rfl; (with_reducible repeat (first | refine blk_drewN ?_ _ | refine blk_drew ?_ | refine blk_alloc ?_ _)); refine blk_put (cs := #[.int .i64 ((rd_T24 l0 x11_1).f0), .string (⟨#[]⟩ : ByteArray), .bool false, .bool false]) ?_ 1 _ rfl; (with_reducible repeat (first | refine blk_drewN ?_ _ | refine blk_drew ?_ | refine blk_alloc ?_ _)); refine blk_put (cs := #[.int .i64 0, .string (⟨#[]⟩ : ByteArray), .bool false, .bool false]) ?_ 0 _ rfl; (with_reducible repeat (first | refine blk_drewN ?_ _ | refine blk_drew ?_ | refine blk_alloc ?_ _)); exact BK102.out) hb); have n1_ := Aside0.mk (below_step (by repeat (first | (with_reducible first | exact HB.out | apply below_alloc | apply pw_below_drewN | apply below_drew1 | refine below_set ?_ GE102.out) | exact HB.out)) hb); clear BK102; clear HB; have BK102 := n0_; have HB := n1_; clear n0_ n1_; (try clear hb); (try clear hb2); (try clear hk); (try clear hi)))
        go_ret
        exact ⟨by first | rfl | (simp [errW_none, errW_some] <;> rfl) | (simp [*, errW_none, errW_some] <;> rfl), by repeat (first | (with_reducible first | exact HB.out | apply below_alloc | apply pw_below_drewN | apply below_drew1 | refine below_set ?_ GE102.out) | exact HB.out)⟩
      ·rw [if_neg c5] at H
       exact absurd H (by simp)
     ·rw [if_neg c4] at H
      exact absurd H (by simp)
    ·rw [if_neg c3] at H
     have c3b0 : decide (x11_1 < (l0.length : Int)) = false := decide_eq_false c3
     clear c3
     obtain rfl := Option.some.inj H
     go_wp2
     go_ret
     exact ⟨by first | rfl | (simp [errW_none, errW_some] <;> rfl) | (simp [*, errW_none, errW_some] <;> rfl), by repeat (first | (with_reducible first | exact HB.out | apply below_alloc | apply pw_below_drewN | apply below_drew1) | exact HB.out)⟩
end Go.Proofs.YtioehkeocddniaaDoor.PA
namespace Go.Proofs.YtioehkeocddniaaDoor.PA
open Go.RowKit Go.Proofs.YtioehkeocddniaaDoorW.PrintWords Go.Proofs.YtioehkeocddniaaDoorW.PrintLast Go.Proofs.YtioehkeocddniaaDoorW.PrintMore
attribute [local go_sem] max2_int min2_int max_two min_two max_three min_three max_four min_four
set_option linter.unusedVariables false
set_option linter.unusedSimpArgs false
def lineR (a : Int) (p : ByteArray) (dir anch : Bool) : ByteArray :=
 let s := (strOfNums [actB a, 32] : ByteArray)
 let s := if anch = true then s ++ (⟨#[47]⟩ : ByteArray) else s
 let s := s ++ p
 if dir = true then s ++ (⟨#[47]⟩ : ByteArray) else s
theorem lineR_false_false (a : Int) (p : ByteArray) : lineR a p false false = strOfNums [actB a, 32] ++ p := rfl
theorem lineR_false_true (a : Int) (p : ByteArray) : lineR a p false true = strOfNums [actB a, 32] ++ (⟨#[47]⟩ : ByteArray) ++ p := rfl
theorem lineR_true_false (a : Int) (p : ByteArray) : lineR a p true false = strOfNums [actB a, 32] ++ p ++ (⟨#[47]⟩ : ByteArray) := rfl
theorem lineR_true_true (a : Int) (p : ByteArray) : lineR a p true true = strOfNums [actB a, 32] ++ (⟨#[47]⟩ : ByteArray) ++ p ++ (⟨#[47]⟩ : ByteArray) := rfl
def rules_Print.f (a0_0 : Int) (a0_1 : ByteArray) (a0_2 : Bool) (a0_3 : Bool) : Option (ByteArray × Int) :=
 if a0_1.size < 1000000 then (rules_check.f a0_0 a0_1 a0_2 a0_3).bind fun e => if e = 0 then some (lineR a0_0 a0_1 a0_2 a0_3, 0) else some ((⟨#[]⟩ : ByteArray), e) else none
theorem check_act {a : Int} {p : ByteArray} {d h : Bool} (hc : rules_check.f a p d h = some 0) : a = 1 ∨ a = 2 ∨ a = 3 ∨ a = 4 := by
 unfold rules_check.f at hc
 rw [rules_sign.f, Option.bind_some] at hc
 by_cases hz : actB a = 0
 ·rw [if_pos hz] at hc
  simp at hc
 ·unfold actB at hz
  by_cases h1 : a = 1
  ·exact .inl h1
  ·rw [if_neg h1] at hz
   by_cases h2 : a = 2
   ·exact .inr (.inl h2)
   ·rw [if_neg h2] at hz
    by_cases h3 : a = 3
    ·exact .inr (.inr (.inl h3))
    ·rw [if_neg h3] at hz
     by_cases h4 : a = 4
     ·exact .inr (.inr (.inr h4))
     ·rw [if_neg h4] at hz
      exact absurd rfl hz
set_option maxHeartbeats 8000000 in
set_option maxRecDepth 100000 in
theorem rules_Print.calls (a0_0 : Int) (a0_1 : ByteArray) (a0_2 : Bool) (a0_3 : Bool) (r1 : ByteArray) (r2 : Int) (w : World) (h : rules_Print.f a0_0 a0_1 a0_2 a0_3 = some (r1, r2)) :
  Calls Tryd.prog 31 #[.agg #[.int .i64 a0_0, .string a0_1, .bool a0_2, .bool a0_3]] w fun e w' => e = .returned (.tuple #[.string r1, .int .i64 r2]) ∧ Below w.heap.size w w' := by
 unfold rules_Print.f at h
 split at h
 ·rename_i hs
  obtain ⟨er, he, h⟩ := Option.bind_eq_some_iff.1 h
  have hu1 := Tryd.underlying24
  have hck : ∀ w, Calls Tryd.prog 39 #[.agg #[.int .i64 a0_0, .string a0_1, .bool a0_2, .bool a0_3]] w fun e w' => e = .returned (.int .i64 er) ∧ Below w.heap.size w w' := fun w => rules_check.calls a0_0 a0_1 a0_2 a0_3 er w he
  have k1 : (9223372036854775807 < 2 + a0_1.size) = False := eq_false (by omega)
  have k2 : (9223372036854775807 < 3 + a0_1.size) = False := eq_false (by omega)
  have k3 : (9223372036854775807 < 2 + a0_1.size + 1) = False := eq_false (by omega)
  have k4 : (9223372036854775807 < 3 + a0_1.size + 1) = False := eq_false (by omega)
  by_cases hz : er = 0
  ·subst hz
   rw [if_pos rfl] at h
   obtain ⟨rfl, rfl⟩ := Prod.mk.inj (Option.some.inj h)
   clear h hs
   rcases check_act he with rfl | rfl | rfl | rfl
   ·cases a0_2 with
    | false =>
     cases a0_3 with
     | false =>
      have hsg : ∀ w, Calls Tryd.prog 55 #[.int .i64 1] w fun e w' => e = .returned (.int .u8 43) ∧ Below w.heap.size w w' := fun w => rules_sign.calls 1 _ w rfl
      have hcv : ∀ W, (convert 5 9 (.int .u8 43)).run Tryd.prog W = .ok (.string ⟨#[43]⟩) W := fun W => by kernel_rfl
      have HD := Aside0.mk (B1.start 24 w #[.int .i64 1, .string a0_1, .bool false, .bool false])
      go_enter Tryd.func31, Tryd.ntmps31
      go_wp2_with (first | ((with_reducible refine gate_dst (N := 6) rfl ?_); refine wpList_load_row rfl 24 (.tmp 1) rfl w.heap.size rfl 24 #[.int .i64 1, .string a0_1, .bool false, .bool false] (0, 0) _ HD.out.2 hu1 rfl (by kernel_rfl) ?_) | (go_at_call 39; (with_reducible refine (hck _).mono ?_); rintro e w2 ⟨rfl, hb⟩; have n0_ := Aside0.mk (B1.step HD.out hb); clear HD hb; have HD := n0_; clear n0_; have c0 := blk_cell HD.out.2 0; have c1 := blk_cell HD.out.2 1; have c2 := blk_cell HD.out.2 2; have c3 := blk_cell HD.out.2 3; change _ = some (Value.int .i64 1) at c0; change _ = some (Value.string a0_1) at c1; change _ = some (Value.bool false) at c2; change _ = some (Value.bool false) at c3) | (go_at_call 55; (with_reducible refine (hsg _).mono ?_); rintro e w2 ⟨rfl, hb⟩; clear c0 c1 c2 c3; have n0_ := Aside0.mk (B1.step HD.out hb); clear HD hb; have HD := n0_; clear n0_; have c0 := blk_cell HD.out.2 0; have c1 := blk_cell HD.out.2 1; have c2 := blk_cell HD.out.2 2; have c3 := blk_cell HD.out.2 3; change _ = some (Value.int .i64 1) at c0; change _ = some (Value.string a0_1) at c1; change _ = some (Value.bool false) at c2; change _ = some (Value.bool false) at c3))
      go_ret2
      exact ⟨by rw [lineR_false_false]; rfl, HD.out.1⟩
     | true =>
      have hsg : ∀ w, Calls Tryd.prog 55 #[.int .i64 1] w fun e w' => e = .returned (.int .u8 43) ∧ Below w.heap.size w w' := fun w => rules_sign.calls 1 _ w rfl
      have hcv : ∀ W, (convert 5 9 (.int .u8 43)).run Tryd.prog W = .ok (.string ⟨#[43]⟩) W := fun W => by kernel_rfl
      have HD := Aside0.mk (B1.start 24 w #[.int .i64 1, .string a0_1, .bool false, .bool true])
      go_enter Tryd.func31, Tryd.ntmps31
      go_wp2_with (first | ((with_reducible refine gate_dst (N := 6) rfl ?_); refine wpList_load_row rfl 24 (.tmp 1) rfl w.heap.size rfl 24 #[.int .i64 1, .string a0_1, .bool false, .bool true] (0, 0) _ HD.out.2 hu1 rfl (by kernel_rfl) ?_) | (go_at_call 39; (with_reducible refine (hck _).mono ?_); rintro e w2 ⟨rfl, hb⟩; have n0_ := Aside0.mk (B1.step HD.out hb); clear HD hb; have HD := n0_; clear n0_; have c0 := blk_cell HD.out.2 0; have c1 := blk_cell HD.out.2 1; have c2 := blk_cell HD.out.2 2; have c3 := blk_cell HD.out.2 3; change _ = some (Value.int .i64 1) at c0; change _ = some (Value.string a0_1) at c1; change _ = some (Value.bool false) at c2; change _ = some (Value.bool true) at c3) | (go_at_call 55; (with_reducible refine (hsg _).mono ?_); rintro e w2 ⟨rfl, hb⟩; clear c0 c1 c2 c3; have n0_ := Aside0.mk (B1.step HD.out hb); clear HD hb; have HD := n0_; clear n0_; have c0 := blk_cell HD.out.2 0; have c1 := blk_cell HD.out.2 1; have c2 := blk_cell HD.out.2 2; have c3 := blk_cell HD.out.2 3; change _ = some (Value.int .i64 1) at c0; change _ = some (Value.string a0_1) at c1; change _ = some (Value.bool false) at c2; change _ = some (Value.bool true) at c3))
      go_ret2
      exact ⟨by rw [lineR_false_true]; rfl, HD.out.1⟩
    | true =>
     cases a0_3 with
     | false =>
      have hsg : ∀ w, Calls Tryd.prog 55 #[.int .i64 1] w fun e w' => e = .returned (.int .u8 43) ∧ Below w.heap.size w w' := fun w => rules_sign.calls 1 _ w rfl
      have hcv : ∀ W, (convert 5 9 (.int .u8 43)).run Tryd.prog W = .ok (.string ⟨#[43]⟩) W := fun W => by kernel_rfl
      have HD := Aside0.mk (B1.start 24 w #[.int .i64 1, .string a0_1, .bool true, .bool false])
      go_enter Tryd.func31, Tryd.ntmps31
      go_wp2_with (first | ((with_reducible refine gate_dst (N := 6) rfl ?_); refine wpList_load_row rfl 24 (.tmp 1) rfl w.heap.size rfl 24 #[.int .i64 1, .string a0_1, .bool true, .bool false] (0, 0) _ HD.out.2 hu1 rfl (by kernel_rfl) ?_) | (go_at_call 39; (with_reducible refine (hck _).mono ?_); rintro e w2 ⟨rfl, hb⟩; have n0_ := Aside0.mk (B1.step HD.out hb); clear HD hb; have HD := n0_; clear n0_; have c0 := blk_cell HD.out.2 0; have c1 := blk_cell HD.out.2 1; have c2 := blk_cell HD.out.2 2; have c3 := blk_cell HD.out.2 3; change _ = some (Value.int .i64 1) at c0; change _ = some (Value.string a0_1) at c1; change _ = some (Value.bool true) at c2; change _ = some (Value.bool false) at c3) | (go_at_call 55; (with_reducible refine (hsg _).mono ?_); rintro e w2 ⟨rfl, hb⟩; clear c0 c1 c2 c3; have n0_ := Aside0.mk (B1.step HD.out hb); clear HD hb; have HD := n0_; clear n0_; have c0 := blk_cell HD.out.2 0; have c1 := blk_cell HD.out.2 1; have c2 := blk_cell HD.out.2 2; have c3 := blk_cell HD.out.2 3; change _ = some (Value.int .i64 1) at c0; change _ = some (Value.string a0_1) at c1; change _ = some (Value.bool true) at c2; change _ = some (Value.bool false) at c3))
      go_ret2
      exact ⟨by rw [lineR_true_false]; rfl, HD.out.1⟩
     | true =>
      have hsg : ∀ w, Calls Tryd.prog 55 #[.int .i64 1] w fun e w' => e = .returned (.int .u8 43) ∧ Below w.heap.size w w' := fun w => rules_sign.calls 1 _ w rfl
      have hcv : ∀ W, (convert 5 9 (.int .u8 43)).run Tryd.prog W = .ok (.string ⟨#[43]⟩) W := fun W => by kernel_rfl
      have HD := Aside0.mk (B1.start 24 w #[.int .i64 1, .string a0_1, .bool true, .bool true])
      go_enter Tryd.func31, Tryd.ntmps31
      go_wp2_with (first | ((with_reducible refine gate_dst (N := 6) rfl ?_); refine wpList_load_row rfl 24 (.tmp 1) rfl w.heap.size rfl 24 #[.int .i64 1, .string a0_1, .bool true, .bool true] (0, 0) _ HD.out.2 hu1 rfl (by kernel_rfl) ?_) | (go_at_call 39; (with_reducible refine (hck _).mono ?_); rintro e w2 ⟨rfl, hb⟩; have n0_ := Aside0.mk (B1.step HD.out hb); clear HD hb; have HD := n0_; clear n0_; have c0 := blk_cell HD.out.2 0; have c1 := blk_cell HD.out.2 1; have c2 := blk_cell HD.out.2 2; have c3 := blk_cell HD.out.2 3; change _ = some (Value.int .i64 1) at c0; change _ = some (Value.string a0_1) at c1; change _ = some (Value.bool true) at c2; change _ = some (Value.bool true) at c3) | (go_at_call 55; (with_reducible refine (hsg _).mono ?_); rintro e w2 ⟨rfl, hb⟩; clear c0 c1 c2 c3; have n0_ := Aside0.mk (B1.step HD.out hb); clear HD hb; have HD := n0_; clear n0_; have c0 := blk_cell HD.out.2 0; have c1 := blk_cell HD.out.2 1; have c2 := blk_cell HD.out.2 2; have c3 := blk_cell HD.out.2 3; change _ = some (Value.int .i64 1) at c0; change _ = some (Value.string a0_1) at c1; change _ = some (Value.bool true) at c2; change _ = some (Value.bool true) at c3))
      go_ret2
      exact ⟨by rw [lineR_true_true]; rfl, HD.out.1⟩
   ·cases a0_2 with
    | false =>
     cases a0_3 with
     | false =>
      have hsg : ∀ w, Calls Tryd.prog 55 #[.int .i64 2] w fun e w' => e = .returned (.int .u8 45) ∧ Below w.heap.size w w' := fun w => rules_sign.calls 2 _ w rfl
      have hcv : ∀ W, (convert 5 9 (.int .u8 45)).run Tryd.prog W = .ok (.string ⟨#[45]⟩) W := fun W => by kernel_rfl
      have HD := Aside0.mk (B1.start 24 w #[.int .i64 2, .string a0_1, .bool false, .bool false])
      go_enter Tryd.func31, Tryd.ntmps31
      go_wp2_with (first | ((with_reducible refine gate_dst (N := 6) rfl ?_); refine wpList_load_row rfl 24 (.tmp 1) rfl w.heap.size rfl 24 #[.int .i64 2, .string a0_1, .bool false, .bool false] (0, 0) _ HD.out.2 hu1 rfl (by kernel_rfl) ?_) | (go_at_call 39; (with_reducible refine (hck _).mono ?_); rintro e w2 ⟨rfl, hb⟩; have n0_ := Aside0.mk (B1.step HD.out hb); clear HD hb; have HD := n0_; clear n0_; have c0 := blk_cell HD.out.2 0; have c1 := blk_cell HD.out.2 1; have c2 := blk_cell HD.out.2 2; have c3 := blk_cell HD.out.2 3; change _ = some (Value.int .i64 2) at c0; change _ = some (Value.string a0_1) at c1; change _ = some (Value.bool false) at c2; change _ = some (Value.bool false) at c3) | (go_at_call 55; (with_reducible refine (hsg _).mono ?_); rintro e w2 ⟨rfl, hb⟩; clear c0 c1 c2 c3; have n0_ := Aside0.mk (B1.step HD.out hb); clear HD hb; have HD := n0_; clear n0_; have c0 := blk_cell HD.out.2 0; have c1 := blk_cell HD.out.2 1; have c2 := blk_cell HD.out.2 2; have c3 := blk_cell HD.out.2 3; change _ = some (Value.int .i64 2) at c0; change _ = some (Value.string a0_1) at c1; change _ = some (Value.bool false) at c2; change _ = some (Value.bool false) at c3))
      go_ret2
      exact ⟨by rw [lineR_false_false]; rfl, HD.out.1⟩
     | true =>
      have hsg : ∀ w, Calls Tryd.prog 55 #[.int .i64 2] w fun e w' => e = .returned (.int .u8 45) ∧ Below w.heap.size w w' := fun w => rules_sign.calls 2 _ w rfl
      have hcv : ∀ W, (convert 5 9 (.int .u8 45)).run Tryd.prog W = .ok (.string ⟨#[45]⟩) W := fun W => by kernel_rfl
      have HD := Aside0.mk (B1.start 24 w #[.int .i64 2, .string a0_1, .bool false, .bool true])
      go_enter Tryd.func31, Tryd.ntmps31
      go_wp2_with (first | ((with_reducible refine gate_dst (N := 6) rfl ?_); refine wpList_load_row rfl 24 (.tmp 1) rfl w.heap.size rfl 24 #[.int .i64 2, .string a0_1, .bool false, .bool true] (0, 0) _ HD.out.2 hu1 rfl (by kernel_rfl) ?_) | (go_at_call 39; (with_reducible refine (hck _).mono ?_); rintro e w2 ⟨rfl, hb⟩; have n0_ := Aside0.mk (B1.step HD.out hb); clear HD hb; have HD := n0_; clear n0_; have c0 := blk_cell HD.out.2 0; have c1 := blk_cell HD.out.2 1; have c2 := blk_cell HD.out.2 2; have c3 := blk_cell HD.out.2 3; change _ = some (Value.int .i64 2) at c0; change _ = some (Value.string a0_1) at c1; change _ = some (Value.bool false) at c2; change _ = some (Value.bool true) at c3) | (go_at_call 55; (with_reducible refine (hsg _).mono ?_); rintro e w2 ⟨rfl, hb⟩; clear c0 c1 c2 c3; have n0_ := Aside0.mk (B1.step HD.out hb); clear HD hb; have HD := n0_; clear n0_; have c0 := blk_cell HD.out.2 0; have c1 := blk_cell HD.out.2 1; have c2 := blk_cell HD.out.2 2; have c3 := blk_cell HD.out.2 3; change _ = some (Value.int .i64 2) at c0; change _ = some (Value.string a0_1) at c1; change _ = some (Value.bool false) at c2; change _ = some (Value.bool true) at c3))
      go_ret2
      exact ⟨by rw [lineR_false_true]; rfl, HD.out.1⟩
    | true =>
     cases a0_3 with
     | false =>
      have hsg : ∀ w, Calls Tryd.prog 55 #[.int .i64 2] w fun e w' => e = .returned (.int .u8 45) ∧ Below w.heap.size w w' := fun w => rules_sign.calls 2 _ w rfl
      have hcv : ∀ W, (convert 5 9 (.int .u8 45)).run Tryd.prog W = .ok (.string ⟨#[45]⟩) W := fun W => by kernel_rfl
      have HD := Aside0.mk (B1.start 24 w #[.int .i64 2, .string a0_1, .bool true, .bool false])
      go_enter Tryd.func31, Tryd.ntmps31
      go_wp2_with (first | ((with_reducible refine gate_dst (N := 6) rfl ?_); refine wpList_load_row rfl 24 (.tmp 1) rfl w.heap.size rfl 24 #[.int .i64 2, .string a0_1, .bool true, .bool false] (0, 0) _ HD.out.2 hu1 rfl (by kernel_rfl) ?_) | (go_at_call 39; (with_reducible refine (hck _).mono ?_); rintro e w2 ⟨rfl, hb⟩; have n0_ := Aside0.mk (B1.step HD.out hb); clear HD hb; have HD := n0_; clear n0_; have c0 := blk_cell HD.out.2 0; have c1 := blk_cell HD.out.2 1; have c2 := blk_cell HD.out.2 2; have c3 := blk_cell HD.out.2 3; change _ = some (Value.int .i64 2) at c0; change _ = some (Value.string a0_1) at c1; change _ = some (Value.bool true) at c2; change _ = some (Value.bool false) at c3) | (go_at_call 55; (with_reducible refine (hsg _).mono ?_); rintro e w2 ⟨rfl, hb⟩; clear c0 c1 c2 c3; have n0_ := Aside0.mk (B1.step HD.out hb); clear HD hb; have HD := n0_; clear n0_; have c0 := blk_cell HD.out.2 0; have c1 := blk_cell HD.out.2 1; have c2 := blk_cell HD.out.2 2; have c3 := blk_cell HD.out.2 3; change _ = some (Value.int .i64 2) at c0; change _ = some (Value.string a0_1) at c1; change _ = some (Value.bool true) at c2; change _ = some (Value.bool false) at c3))
      go_ret2
      exact ⟨by rw [lineR_true_false]; rfl, HD.out.1⟩
     | true =>
      have hsg : ∀ w, Calls Tryd.prog 55 #[.int .i64 2] w fun e w' => e = .returned (.int .u8 45) ∧ Below w.heap.size w w' := fun w => rules_sign.calls 2 _ w rfl
      have hcv : ∀ W, (convert 5 9 (.int .u8 45)).run Tryd.prog W = .ok (.string ⟨#[45]⟩) W := fun W => by kernel_rfl
      have HD := Aside0.mk (B1.start 24 w #[.int .i64 2, .string a0_1, .bool true, .bool true])
      go_enter Tryd.func31, Tryd.ntmps31
      go_wp2_with (first | ((with_reducible refine gate_dst (N := 6) rfl ?_); refine wpList_load_row rfl 24 (.tmp 1) rfl w.heap.size rfl 24 #[.int .i64 2, .string a0_1, .bool true, .bool true] (0, 0) _ HD.out.2 hu1 rfl (by kernel_rfl) ?_) | (go_at_call 39; (with_reducible refine (hck _).mono ?_); rintro e w2 ⟨rfl, hb⟩; have n0_ := Aside0.mk (B1.step HD.out hb); clear HD hb; have HD := n0_; clear n0_; have c0 := blk_cell HD.out.2 0; have c1 := blk_cell HD.out.2 1; have c2 := blk_cell HD.out.2 2; have c3 := blk_cell HD.out.2 3; change _ = some (Value.int .i64 2) at c0; change _ = some (Value.string a0_1) at c1; change _ = some (Value.bool true) at c2; change _ = some (Value.bool true) at c3) | (go_at_call 55; (with_reducible refine (hsg _).mono ?_); rintro e w2 ⟨rfl, hb⟩; clear c0 c1 c2 c3; have n0_ := Aside0.mk (B1.step HD.out hb); clear HD hb; have HD := n0_; clear n0_; have c0 := blk_cell HD.out.2 0; have c1 := blk_cell HD.out.2 1; have c2 := blk_cell HD.out.2 2; have c3 := blk_cell HD.out.2 3; change _ = some (Value.int .i64 2) at c0; change _ = some (Value.string a0_1) at c1; change _ = some (Value.bool true) at c2; change _ = some (Value.bool true) at c3))
      go_ret2
      exact ⟨by rw [lineR_true_true]; rfl, HD.out.1⟩
   ·cases a0_2 with
    | false =>
     cases a0_3 with
     | false =>
      have hsg : ∀ w, Calls Tryd.prog 55 #[.int .i64 3] w fun e w' => e = .returned (.int .u8 80) ∧ Below w.heap.size w w' := fun w => rules_sign.calls 3 _ w rfl
      have hcv : ∀ W, (convert 5 9 (.int .u8 80)).run Tryd.prog W = .ok (.string ⟨#[80]⟩) W := fun W => by kernel_rfl
      have HD := Aside0.mk (B1.start 24 w #[.int .i64 3, .string a0_1, .bool false, .bool false])
      go_enter Tryd.func31, Tryd.ntmps31
      go_wp2_with (first | ((with_reducible refine gate_dst (N := 6) rfl ?_); refine wpList_load_row rfl 24 (.tmp 1) rfl w.heap.size rfl 24 #[.int .i64 3, .string a0_1, .bool false, .bool false] (0, 0) _ HD.out.2 hu1 rfl (by kernel_rfl) ?_) | (go_at_call 39; (with_reducible refine (hck _).mono ?_); rintro e w2 ⟨rfl, hb⟩; have n0_ := Aside0.mk (B1.step HD.out hb); clear HD hb; have HD := n0_; clear n0_; have c0 := blk_cell HD.out.2 0; have c1 := blk_cell HD.out.2 1; have c2 := blk_cell HD.out.2 2; have c3 := blk_cell HD.out.2 3; change _ = some (Value.int .i64 3) at c0; change _ = some (Value.string a0_1) at c1; change _ = some (Value.bool false) at c2; change _ = some (Value.bool false) at c3) | (go_at_call 55; (with_reducible refine (hsg _).mono ?_); rintro e w2 ⟨rfl, hb⟩; clear c0 c1 c2 c3; have n0_ := Aside0.mk (B1.step HD.out hb); clear HD hb; have HD := n0_; clear n0_; have c0 := blk_cell HD.out.2 0; have c1 := blk_cell HD.out.2 1; have c2 := blk_cell HD.out.2 2; have c3 := blk_cell HD.out.2 3; change _ = some (Value.int .i64 3) at c0; change _ = some (Value.string a0_1) at c1; change _ = some (Value.bool false) at c2; change _ = some (Value.bool false) at c3))
      go_ret2
      exact ⟨by rw [lineR_false_false]; rfl, HD.out.1⟩
     | true =>
      have hsg : ∀ w, Calls Tryd.prog 55 #[.int .i64 3] w fun e w' => e = .returned (.int .u8 80) ∧ Below w.heap.size w w' := fun w => rules_sign.calls 3 _ w rfl
      have hcv : ∀ W, (convert 5 9 (.int .u8 80)).run Tryd.prog W = .ok (.string ⟨#[80]⟩) W := fun W => by kernel_rfl
      have HD := Aside0.mk (B1.start 24 w #[.int .i64 3, .string a0_1, .bool false, .bool true])
      go_enter Tryd.func31, Tryd.ntmps31
      go_wp2_with (first | ((with_reducible refine gate_dst (N := 6) rfl ?_); refine wpList_load_row rfl 24 (.tmp 1) rfl w.heap.size rfl 24 #[.int .i64 3, .string a0_1, .bool false, .bool true] (0, 0) _ HD.out.2 hu1 rfl (by kernel_rfl) ?_) | (go_at_call 39; (with_reducible refine (hck _).mono ?_); rintro e w2 ⟨rfl, hb⟩; have n0_ := Aside0.mk (B1.step HD.out hb); clear HD hb; have HD := n0_; clear n0_; have c0 := blk_cell HD.out.2 0; have c1 := blk_cell HD.out.2 1; have c2 := blk_cell HD.out.2 2; have c3 := blk_cell HD.out.2 3; change _ = some (Value.int .i64 3) at c0; change _ = some (Value.string a0_1) at c1; change _ = some (Value.bool false) at c2; change _ = some (Value.bool true) at c3) | (go_at_call 55; (with_reducible refine (hsg _).mono ?_); rintro e w2 ⟨rfl, hb⟩; clear c0 c1 c2 c3; have n0_ := Aside0.mk (B1.step HD.out hb); clear HD hb; have HD := n0_; clear n0_; have c0 := blk_cell HD.out.2 0; have c1 := blk_cell HD.out.2 1; have c2 := blk_cell HD.out.2 2; have c3 := blk_cell HD.out.2 3; change _ = some (Value.int .i64 3) at c0; change _ = some (Value.string a0_1) at c1; change _ = some (Value.bool false) at c2; change _ = some (Value.bool true) at c3))
      go_ret2
      exact ⟨by rw [lineR_false_true]; rfl, HD.out.1⟩
    | true =>
     cases a0_3 with
     | false =>
      have hsg : ∀ w, Calls Tryd.prog 55 #[.int .i64 3] w fun e w' => e = .returned (.int .u8 80) ∧ Below w.heap.size w w' := fun w => rules_sign.calls 3 _ w rfl
      have hcv : ∀ W, (convert 5 9 (.int .u8 80)).run Tryd.prog W = .ok (.string ⟨#[80]⟩) W := fun W => by kernel_rfl
      have HD := Aside0.mk (B1.start 24 w #[.int .i64 3, .string a0_1, .bool true, .bool false])
      go_enter Tryd.func31, Tryd.ntmps31
      go_wp2_with (first | ((with_reducible refine gate_dst (N := 6) rfl ?_); refine wpList_load_row rfl 24 (.tmp 1) rfl w.heap.size rfl 24 #[.int .i64 3, .string a0_1, .bool true, .bool false] (0, 0) _ HD.out.2 hu1 rfl (by kernel_rfl) ?_) | (go_at_call 39; (with_reducible refine (hck _).mono ?_); rintro e w2 ⟨rfl, hb⟩; have n0_ := Aside0.mk (B1.step HD.out hb); clear HD hb; have HD := n0_; clear n0_; have c0 := blk_cell HD.out.2 0; have c1 := blk_cell HD.out.2 1; have c2 := blk_cell HD.out.2 2; have c3 := blk_cell HD.out.2 3; change _ = some (Value.int .i64 3) at c0; change _ = some (Value.string a0_1) at c1; change _ = some (Value.bool true) at c2; change _ = some (Value.bool false) at c3) | (go_at_call 55; (with_reducible refine (hsg _).mono ?_); rintro e w2 ⟨rfl, hb⟩; clear c0 c1 c2 c3; have n0_ := Aside0.mk (B1.step HD.out hb); clear HD hb; have HD := n0_; clear n0_; have c0 := blk_cell HD.out.2 0; have c1 := blk_cell HD.out.2 1; have c2 := blk_cell HD.out.2 2; have c3 := blk_cell HD.out.2 3; change _ = some (Value.int .i64 3) at c0; change _ = some (Value.string a0_1) at c1; change _ = some (Value.bool true) at c2; change _ = some (Value.bool false) at c3))
      go_ret2
      exact ⟨by rw [lineR_true_false]; rfl, HD.out.1⟩
     | true =>
      have hsg : ∀ w, Calls Tryd.prog 55 #[.int .i64 3] w fun e w' => e = .returned (.int .u8 80) ∧ Below w.heap.size w w' := fun w => rules_sign.calls 3 _ w rfl
      have hcv : ∀ W, (convert 5 9 (.int .u8 80)).run Tryd.prog W = .ok (.string ⟨#[80]⟩) W := fun W => by kernel_rfl
      have HD := Aside0.mk (B1.start 24 w #[.int .i64 3, .string a0_1, .bool true, .bool true])
      go_enter Tryd.func31, Tryd.ntmps31
      go_wp2_with (first | ((with_reducible refine gate_dst (N := 6) rfl ?_); refine wpList_load_row rfl 24 (.tmp 1) rfl w.heap.size rfl 24 #[.int .i64 3, .string a0_1, .bool true, .bool true] (0, 0) _ HD.out.2 hu1 rfl (by kernel_rfl) ?_) | (go_at_call 39; (with_reducible refine (hck _).mono ?_); rintro e w2 ⟨rfl, hb⟩; have n0_ := Aside0.mk (B1.step HD.out hb); clear HD hb; have HD := n0_; clear n0_; have c0 := blk_cell HD.out.2 0; have c1 := blk_cell HD.out.2 1; have c2 := blk_cell HD.out.2 2; have c3 := blk_cell HD.out.2 3; change _ = some (Value.int .i64 3) at c0; change _ = some (Value.string a0_1) at c1; change _ = some (Value.bool true) at c2; change _ = some (Value.bool true) at c3) | (go_at_call 55; (with_reducible refine (hsg _).mono ?_); rintro e w2 ⟨rfl, hb⟩; clear c0 c1 c2 c3; have n0_ := Aside0.mk (B1.step HD.out hb); clear HD hb; have HD := n0_; clear n0_; have c0 := blk_cell HD.out.2 0; have c1 := blk_cell HD.out.2 1; have c2 := blk_cell HD.out.2 2; have c3 := blk_cell HD.out.2 3; change _ = some (Value.int .i64 3) at c0; change _ = some (Value.string a0_1) at c1; change _ = some (Value.bool true) at c2; change _ = some (Value.bool true) at c3))
      go_ret2
      exact ⟨by rw [lineR_true_true]; rfl, HD.out.1⟩
   ·cases a0_2 with
    | false =>
     cases a0_3 with
     | false =>
      have hsg : ∀ w, Calls Tryd.prog 55 #[.int .i64 4] w fun e w' => e = .returned (.int .u8 82) ∧ Below w.heap.size w w' := fun w => rules_sign.calls 4 _ w rfl
      have hcv : ∀ W, (convert 5 9 (.int .u8 82)).run Tryd.prog W = .ok (.string ⟨#[82]⟩) W := fun W => by kernel_rfl
      have HD := Aside0.mk (B1.start 24 w #[.int .i64 4, .string a0_1, .bool false, .bool false])
      go_enter Tryd.func31, Tryd.ntmps31
      go_wp2_with (first | ((with_reducible refine gate_dst (N := 6) rfl ?_); refine wpList_load_row rfl 24 (.tmp 1) rfl w.heap.size rfl 24 #[.int .i64 4, .string a0_1, .bool false, .bool false] (0, 0) _ HD.out.2 hu1 rfl (by kernel_rfl) ?_) | (go_at_call 39; (with_reducible refine (hck _).mono ?_); rintro e w2 ⟨rfl, hb⟩; have n0_ := Aside0.mk (B1.step HD.out hb); clear HD hb; have HD := n0_; clear n0_; have c0 := blk_cell HD.out.2 0; have c1 := blk_cell HD.out.2 1; have c2 := blk_cell HD.out.2 2; have c3 := blk_cell HD.out.2 3; change _ = some (Value.int .i64 4) at c0; change _ = some (Value.string a0_1) at c1; change _ = some (Value.bool false) at c2; change _ = some (Value.bool false) at c3) | (go_at_call 55; (with_reducible refine (hsg _).mono ?_); rintro e w2 ⟨rfl, hb⟩; clear c0 c1 c2 c3; have n0_ := Aside0.mk (B1.step HD.out hb); clear HD hb; have HD := n0_; clear n0_; have c0 := blk_cell HD.out.2 0; have c1 := blk_cell HD.out.2 1; have c2 := blk_cell HD.out.2 2; have c3 := blk_cell HD.out.2 3; change _ = some (Value.int .i64 4) at c0; change _ = some (Value.string a0_1) at c1; change _ = some (Value.bool false) at c2; change _ = some (Value.bool false) at c3))
      go_ret2
      exact ⟨by rw [lineR_false_false]; rfl, HD.out.1⟩
     | true =>
      have hsg : ∀ w, Calls Tryd.prog 55 #[.int .i64 4] w fun e w' => e = .returned (.int .u8 82) ∧ Below w.heap.size w w' := fun w => rules_sign.calls 4 _ w rfl
      have hcv : ∀ W, (convert 5 9 (.int .u8 82)).run Tryd.prog W = .ok (.string ⟨#[82]⟩) W := fun W => by kernel_rfl
      have HD := Aside0.mk (B1.start 24 w #[.int .i64 4, .string a0_1, .bool false, .bool true])
      go_enter Tryd.func31, Tryd.ntmps31
      go_wp2_with (first | ((with_reducible refine gate_dst (N := 6) rfl ?_); refine wpList_load_row rfl 24 (.tmp 1) rfl w.heap.size rfl 24 #[.int .i64 4, .string a0_1, .bool false, .bool true] (0, 0) _ HD.out.2 hu1 rfl (by kernel_rfl) ?_) | (go_at_call 39; (with_reducible refine (hck _).mono ?_); rintro e w2 ⟨rfl, hb⟩; have n0_ := Aside0.mk (B1.step HD.out hb); clear HD hb; have HD := n0_; clear n0_; have c0 := blk_cell HD.out.2 0; have c1 := blk_cell HD.out.2 1; have c2 := blk_cell HD.out.2 2; have c3 := blk_cell HD.out.2 3; change _ = some (Value.int .i64 4) at c0; change _ = some (Value.string a0_1) at c1; change _ = some (Value.bool false) at c2; change _ = some (Value.bool true) at c3) | (go_at_call 55; (with_reducible refine (hsg _).mono ?_); rintro e w2 ⟨rfl, hb⟩; clear c0 c1 c2 c3; have n0_ := Aside0.mk (B1.step HD.out hb); clear HD hb; have HD := n0_; clear n0_; have c0 := blk_cell HD.out.2 0; have c1 := blk_cell HD.out.2 1; have c2 := blk_cell HD.out.2 2; have c3 := blk_cell HD.out.2 3; change _ = some (Value.int .i64 4) at c0; change _ = some (Value.string a0_1) at c1; change _ = some (Value.bool false) at c2; change _ = some (Value.bool true) at c3))
      go_ret2
      exact ⟨by rw [lineR_false_true]; rfl, HD.out.1⟩
    | true =>
     cases a0_3 with
     | false =>
      have hsg : ∀ w, Calls Tryd.prog 55 #[.int .i64 4] w fun e w' => e = .returned (.int .u8 82) ∧ Below w.heap.size w w' := fun w => rules_sign.calls 4 _ w rfl
      have hcv : ∀ W, (convert 5 9 (.int .u8 82)).run Tryd.prog W = .ok (.string ⟨#[82]⟩) W := fun W => by kernel_rfl
      have HD := Aside0.mk (B1.start 24 w #[.int .i64 4, .string a0_1, .bool true, .bool false])
      go_enter Tryd.func31, Tryd.ntmps31
      go_wp2_with (first | ((with_reducible refine gate_dst (N := 6) rfl ?_); refine wpList_load_row rfl 24 (.tmp 1) rfl w.heap.size rfl 24 #[.int .i64 4, .string a0_1, .bool true, .bool false] (0, 0) _ HD.out.2 hu1 rfl (by kernel_rfl) ?_) | (go_at_call 39; (with_reducible refine (hck _).mono ?_); rintro e w2 ⟨rfl, hb⟩; have n0_ := Aside0.mk (B1.step HD.out hb); clear HD hb; have HD := n0_; clear n0_; have c0 := blk_cell HD.out.2 0; have c1 := blk_cell HD.out.2 1; have c2 := blk_cell HD.out.2 2; have c3 := blk_cell HD.out.2 3; change _ = some (Value.int .i64 4) at c0; change _ = some (Value.string a0_1) at c1; change _ = some (Value.bool true) at c2; change _ = some (Value.bool false) at c3) | (go_at_call 55; (with_reducible refine (hsg _).mono ?_); rintro e w2 ⟨rfl, hb⟩; clear c0 c1 c2 c3; have n0_ := Aside0.mk (B1.step HD.out hb); clear HD hb; have HD := n0_; clear n0_; have c0 := blk_cell HD.out.2 0; have c1 := blk_cell HD.out.2 1; have c2 := blk_cell HD.out.2 2; have c3 := blk_cell HD.out.2 3; change _ = some (Value.int .i64 4) at c0; change _ = some (Value.string a0_1) at c1; change _ = some (Value.bool true) at c2; change _ = some (Value.bool false) at c3))
      go_ret2
      exact ⟨by rw [lineR_true_false]; rfl, HD.out.1⟩
     | true =>
      have hsg : ∀ w, Calls Tryd.prog 55 #[.int .i64 4] w fun e w' => e = .returned (.int .u8 82) ∧ Below w.heap.size w w' := fun w => rules_sign.calls 4 _ w rfl
      have hcv : ∀ W, (convert 5 9 (.int .u8 82)).run Tryd.prog W = .ok (.string ⟨#[82]⟩) W := fun W => by kernel_rfl
      have HD := Aside0.mk (B1.start 24 w #[.int .i64 4, .string a0_1, .bool true, .bool true])
      go_enter Tryd.func31, Tryd.ntmps31
      go_wp2_with (first | ((with_reducible refine gate_dst (N := 6) rfl ?_); refine wpList_load_row rfl 24 (.tmp 1) rfl w.heap.size rfl 24 #[.int .i64 4, .string a0_1, .bool true, .bool true] (0, 0) _ HD.out.2 hu1 rfl (by kernel_rfl) ?_) | (go_at_call 39; (with_reducible refine (hck _).mono ?_); rintro e w2 ⟨rfl, hb⟩; have n0_ := Aside0.mk (B1.step HD.out hb); clear HD hb; have HD := n0_; clear n0_; have c0 := blk_cell HD.out.2 0; have c1 := blk_cell HD.out.2 1; have c2 := blk_cell HD.out.2 2; have c3 := blk_cell HD.out.2 3; change _ = some (Value.int .i64 4) at c0; change _ = some (Value.string a0_1) at c1; change _ = some (Value.bool true) at c2; change _ = some (Value.bool true) at c3) | (go_at_call 55; (with_reducible refine (hsg _).mono ?_); rintro e w2 ⟨rfl, hb⟩; clear c0 c1 c2 c3; have n0_ := Aside0.mk (B1.step HD.out hb); clear HD hb; have HD := n0_; clear n0_; have c0 := blk_cell HD.out.2 0; have c1 := blk_cell HD.out.2 1; have c2 := blk_cell HD.out.2 2; have c3 := blk_cell HD.out.2 3; change _ = some (Value.int .i64 4) at c0; change _ = some (Value.string a0_1) at c1; change _ = some (Value.bool true) at c2; change _ = some (Value.bool true) at c3))
      go_ret2
      exact ⟨by rw [lineR_true_true]; rfl, HD.out.1⟩
  ·rw [if_neg hz] at h
   obtain ⟨rfl, rfl⟩ := Prod.mk.inj (Option.some.inj h)
   have q1 : (er != 0) = true := bne_iff_ne.2 hz
   clear h he
   have HD := Aside0.mk (B1.start 24 w #[.int .i64 a0_0, .string a0_1, .bool a0_2, .bool a0_3])
   go_enter Tryd.func31, Tryd.ntmps31
   go_wp2_with (first | ((with_reducible refine gate_dst (N := 6) rfl ?_); refine wpList_load_row rfl 24 (.tmp 1) rfl w.heap.size rfl 24 #[.int .i64 a0_0, .string a0_1, .bool a0_2, .bool a0_3] (0, 0) _ HD.out.2 hu1 rfl (by kernel_rfl) ?_) | (go_at_call 39; (with_reducible refine (hck _).mono ?_); rintro e w2 ⟨rfl, hb⟩; have n0_ := Aside0.mk (B1.step HD.out hb); clear HD hb; have HD := n0_; clear n0_))
   go_ret2
   exact ⟨rfl, HD.out.1⟩
 ·cases h
end Go.Proofs.YtioehkeocddniaaDoor.PA
namespace Go.Proofs.YtioehkeocddniaaDoor.PA
open Go.RowKit Go.Proofs.YtioehkeocddniaaDoorW.PrintWords Go.Proofs.YtioehkeocddniaaDoorW.PrintLast Go.Proofs.YtioehkeocddniaaDoorW.PrintMore
attribute [local go_sem] max2_int min2_int max_two min_two max_three min_three max_four min_four
set_option linter.unusedVariables false
set_option linter.unusedSimpArgs false
def remoraref15_Print.f (a0_0 : Int) (a0_1 : ByteArray) (a0_2 : Bool) (a0_3 : Bool) : Option (ByteArray × Int) :=
 if a0_1.size < 1000000 then (remoraref15_one.f 1000010 a0_0 a0_1 a0_2 a0_3).bind fun e => if e = 0 then some (lineR a0_0 a0_1 a0_2 a0_3, 0) else some ((⟨#[]⟩ : ByteArray), e) else none
theorem one_act {k : Nat} {a : Int} {p : ByteArray} {d h : Bool} (hc : remoraref15_one.f k a p d h = some 0) : a = 1 ∨ a = 2 ∨ a = 3 ∨ a = 4 := by
 unfold remoraref15_one.f at hc
 by_cases h1 : a < 1
 ·rw [if_pos h1] at hc
  cases k with
  | zero => simp [remoraref15_one.j0] at hc
  | succ k => simp [remoraref15_one.j0] at hc
 ·rw [if_neg h1] at hc
  by_cases h4 : a > 4
  ·rw [decide_eq_true h4] at hc
   cases k with
   | zero => simp [remoraref15_one.j0] at hc
   | succ k => simp [remoraref15_one.j0] at hc
  ·omega
set_option maxHeartbeats 8000000 in
set_option maxRecDepth 100000 in
theorem remoraref15_Print.calls (a0_0 : Int) (a0_1 : ByteArray) (a0_2 : Bool) (a0_3 : Bool) (r1 : ByteArray) (r2 : Int) (w : World) (h : remoraref15_Print.f a0_0 a0_1 a0_2 a0_3 = some (r1, r2)) :
  Calls Tryd.prog 32 #[.agg #[.int .i64 a0_0, .string a0_1, .bool a0_2, .bool a0_3]] w fun e w' => e = .returned (.tuple #[.string r1, .int .i64 r2]) ∧ Below w.heap.size w w' := by
 unfold remoraref15_Print.f at h
 split at h
 ·rename_i hs
  obtain ⟨er, he, h⟩ := Option.bind_eq_some_iff.1 h
  have hu1 := Tryd.underlying24
  have hck : ∀ w, Calls Tryd.prog 40 #[.agg #[.int .i64 a0_0, .string a0_1, .bool a0_2, .bool a0_3]] w fun e w' => e = .returned (.int .i64 er) ∧ Below w.heap.size w w' := fun w => remoraref15_one.calls 1000010 a0_0 a0_1 a0_2 a0_3 er w he
  have k1 : (9223372036854775807 < 2 + a0_1.size) = False := eq_false (by omega)
  have k2 : (9223372036854775807 < 3 + a0_1.size) = False := eq_false (by omega)
  have k3 : (9223372036854775807 < 2 + a0_1.size + 1) = False := eq_false (by omega)
  have k4 : (9223372036854775807 < 3 + a0_1.size + 1) = False := eq_false (by omega)
  by_cases hz : er = 0
  ·subst hz
   rw [if_pos rfl] at h
   obtain ⟨rfl, rfl⟩ := Prod.mk.inj (Option.some.inj h)
   clear h hs
   rcases one_act he with rfl | rfl | rfl | rfl
   ·cases a0_2 with
    | false =>
     cases a0_3 with
     | false =>
      have hx : ((⟨#[43, 45, 80, 82]⟩ : ByteArray).extract 0 1) = ⟨#[43]⟩ := by decide
      have HD := Aside0.mk (B1.start 24 w #[.int .i64 1, .string a0_1, .bool false, .bool false])
      go_enter Tryd.func32, Tryd.ntmps32
      go_wp2_with (first | ((with_reducible refine gate_dst (N := 6) rfl ?_); refine wpList_load_row rfl 24 (.tmp 1) rfl w.heap.size rfl 24 #[.int .i64 1, .string a0_1, .bool false, .bool false] (0, 0) _ HD.out.2 hu1 rfl (by kernel_rfl) ?_) | (go_at_call 40; (with_reducible refine (hck _).mono ?_); rintro e w2 ⟨rfl, hb⟩; have n0_ := Aside0.mk (B1.step HD.out hb); clear HD hb; have HD := n0_; clear n0_; have c0 := blk_cell HD.out.2 0; have c1 := blk_cell HD.out.2 1; have c2 := blk_cell HD.out.2 2; have c3 := blk_cell HD.out.2 3; change _ = some (Value.int .i64 1) at c0; change _ = some (Value.string a0_1) at c1; change _ = some (Value.bool false) at c2; change _ = some (Value.bool false) at c3))
      go_ret2
      exact ⟨by rw [lineR_false_false]; rfl, HD.out.1⟩
     | true =>
      have hx : ((⟨#[43, 45, 80, 82]⟩ : ByteArray).extract 0 1) = ⟨#[43]⟩ := by decide
      have HD := Aside0.mk (B1.start 24 w #[.int .i64 1, .string a0_1, .bool false, .bool true])
      go_enter Tryd.func32, Tryd.ntmps32
      go_wp2_with (first | ((with_reducible refine gate_dst (N := 6) rfl ?_); refine wpList_load_row rfl 24 (.tmp 1) rfl w.heap.size rfl 24 #[.int .i64 1, .string a0_1, .bool false, .bool true] (0, 0) _ HD.out.2 hu1 rfl (by kernel_rfl) ?_) | (go_at_call 40; (with_reducible refine (hck _).mono ?_); rintro e w2 ⟨rfl, hb⟩; have n0_ := Aside0.mk (B1.step HD.out hb); clear HD hb; have HD := n0_; clear n0_; have c0 := blk_cell HD.out.2 0; have c1 := blk_cell HD.out.2 1; have c2 := blk_cell HD.out.2 2; have c3 := blk_cell HD.out.2 3; change _ = some (Value.int .i64 1) at c0; change _ = some (Value.string a0_1) at c1; change _ = some (Value.bool false) at c2; change _ = some (Value.bool true) at c3))
      go_ret2
      exact ⟨by rw [lineR_false_true]; rfl, HD.out.1⟩
    | true =>
     cases a0_3 with
     | false =>
      have hx : ((⟨#[43, 45, 80, 82]⟩ : ByteArray).extract 0 1) = ⟨#[43]⟩ := by decide
      have HD := Aside0.mk (B1.start 24 w #[.int .i64 1, .string a0_1, .bool true, .bool false])
      go_enter Tryd.func32, Tryd.ntmps32
      go_wp2_with (first | ((with_reducible refine gate_dst (N := 6) rfl ?_); refine wpList_load_row rfl 24 (.tmp 1) rfl w.heap.size rfl 24 #[.int .i64 1, .string a0_1, .bool true, .bool false] (0, 0) _ HD.out.2 hu1 rfl (by kernel_rfl) ?_) | (go_at_call 40; (with_reducible refine (hck _).mono ?_); rintro e w2 ⟨rfl, hb⟩; have n0_ := Aside0.mk (B1.step HD.out hb); clear HD hb; have HD := n0_; clear n0_; have c0 := blk_cell HD.out.2 0; have c1 := blk_cell HD.out.2 1; have c2 := blk_cell HD.out.2 2; have c3 := blk_cell HD.out.2 3; change _ = some (Value.int .i64 1) at c0; change _ = some (Value.string a0_1) at c1; change _ = some (Value.bool true) at c2; change _ = some (Value.bool false) at c3))
      go_ret2
      exact ⟨by rw [lineR_true_false]; rfl, HD.out.1⟩
     | true =>
      have hx : ((⟨#[43, 45, 80, 82]⟩ : ByteArray).extract 0 1) = ⟨#[43]⟩ := by decide
      have HD := Aside0.mk (B1.start 24 w #[.int .i64 1, .string a0_1, .bool true, .bool true])
      go_enter Tryd.func32, Tryd.ntmps32
      go_wp2_with (first | ((with_reducible refine gate_dst (N := 6) rfl ?_); refine wpList_load_row rfl 24 (.tmp 1) rfl w.heap.size rfl 24 #[.int .i64 1, .string a0_1, .bool true, .bool true] (0, 0) _ HD.out.2 hu1 rfl (by kernel_rfl) ?_) | (go_at_call 40; (with_reducible refine (hck _).mono ?_); rintro e w2 ⟨rfl, hb⟩; have n0_ := Aside0.mk (B1.step HD.out hb); clear HD hb; have HD := n0_; clear n0_; have c0 := blk_cell HD.out.2 0; have c1 := blk_cell HD.out.2 1; have c2 := blk_cell HD.out.2 2; have c3 := blk_cell HD.out.2 3; change _ = some (Value.int .i64 1) at c0; change _ = some (Value.string a0_1) at c1; change _ = some (Value.bool true) at c2; change _ = some (Value.bool true) at c3))
      go_ret2
      exact ⟨by rw [lineR_true_true]; rfl, HD.out.1⟩
   ·cases a0_2 with
    | false =>
     cases a0_3 with
     | false =>
      have hx : ((⟨#[43, 45, 80, 82]⟩ : ByteArray).extract 1 2) = ⟨#[45]⟩ := by decide
      have HD := Aside0.mk (B1.start 24 w #[.int .i64 2, .string a0_1, .bool false, .bool false])
      go_enter Tryd.func32, Tryd.ntmps32
      go_wp2_with (first | ((with_reducible refine gate_dst (N := 6) rfl ?_); refine wpList_load_row rfl 24 (.tmp 1) rfl w.heap.size rfl 24 #[.int .i64 2, .string a0_1, .bool false, .bool false] (0, 0) _ HD.out.2 hu1 rfl (by kernel_rfl) ?_) | (go_at_call 40; (with_reducible refine (hck _).mono ?_); rintro e w2 ⟨rfl, hb⟩; have n0_ := Aside0.mk (B1.step HD.out hb); clear HD hb; have HD := n0_; clear n0_; have c0 := blk_cell HD.out.2 0; have c1 := blk_cell HD.out.2 1; have c2 := blk_cell HD.out.2 2; have c3 := blk_cell HD.out.2 3; change _ = some (Value.int .i64 2) at c0; change _ = some (Value.string a0_1) at c1; change _ = some (Value.bool false) at c2; change _ = some (Value.bool false) at c3))
      go_ret2
      exact ⟨by rw [lineR_false_false]; rfl, HD.out.1⟩
     | true =>
      have hx : ((⟨#[43, 45, 80, 82]⟩ : ByteArray).extract 1 2) = ⟨#[45]⟩ := by decide
      have HD := Aside0.mk (B1.start 24 w #[.int .i64 2, .string a0_1, .bool false, .bool true])
      go_enter Tryd.func32, Tryd.ntmps32
      go_wp2_with (first | ((with_reducible refine gate_dst (N := 6) rfl ?_); refine wpList_load_row rfl 24 (.tmp 1) rfl w.heap.size rfl 24 #[.int .i64 2, .string a0_1, .bool false, .bool true] (0, 0) _ HD.out.2 hu1 rfl (by kernel_rfl) ?_) | (go_at_call 40; (with_reducible refine (hck _).mono ?_); rintro e w2 ⟨rfl, hb⟩; have n0_ := Aside0.mk (B1.step HD.out hb); clear HD hb; have HD := n0_; clear n0_; have c0 := blk_cell HD.out.2 0; have c1 := blk_cell HD.out.2 1; have c2 := blk_cell HD.out.2 2; have c3 := blk_cell HD.out.2 3; change _ = some (Value.int .i64 2) at c0; change _ = some (Value.string a0_1) at c1; change _ = some (Value.bool false) at c2; change _ = some (Value.bool true) at c3))
      go_ret2
      exact ⟨by rw [lineR_false_true]; rfl, HD.out.1⟩
    | true =>
     cases a0_3 with
     | false =>
      have hx : ((⟨#[43, 45, 80, 82]⟩ : ByteArray).extract 1 2) = ⟨#[45]⟩ := by decide
      have HD := Aside0.mk (B1.start 24 w #[.int .i64 2, .string a0_1, .bool true, .bool false])
      go_enter Tryd.func32, Tryd.ntmps32
      go_wp2_with (first | ((with_reducible refine gate_dst (N := 6) rfl ?_); refine wpList_load_row rfl 24 (.tmp 1) rfl w.heap.size rfl 24 #[.int .i64 2, .string a0_1, .bool true, .bool false] (0, 0) _ HD.out.2 hu1 rfl (by kernel_rfl) ?_) | (go_at_call 40; (with_reducible refine (hck _).mono ?_); rintro e w2 ⟨rfl, hb⟩; have n0_ := Aside0.mk (B1.step HD.out hb); clear HD hb; have HD := n0_; clear n0_; have c0 := blk_cell HD.out.2 0; have c1 := blk_cell HD.out.2 1; have c2 := blk_cell HD.out.2 2; have c3 := blk_cell HD.out.2 3; change _ = some (Value.int .i64 2) at c0; change _ = some (Value.string a0_1) at c1; change _ = some (Value.bool true) at c2; change _ = some (Value.bool false) at c3))
      go_ret2
      exact ⟨by rw [lineR_true_false]; rfl, HD.out.1⟩
     | true =>
      have hx : ((⟨#[43, 45, 80, 82]⟩ : ByteArray).extract 1 2) = ⟨#[45]⟩ := by decide
      have HD := Aside0.mk (B1.start 24 w #[.int .i64 2, .string a0_1, .bool true, .bool true])
      go_enter Tryd.func32, Tryd.ntmps32
      go_wp2_with (first | ((with_reducible refine gate_dst (N := 6) rfl ?_); refine wpList_load_row rfl 24 (.tmp 1) rfl w.heap.size rfl 24 #[.int .i64 2, .string a0_1, .bool true, .bool true] (0, 0) _ HD.out.2 hu1 rfl (by kernel_rfl) ?_) | (go_at_call 40; (with_reducible refine (hck _).mono ?_); rintro e w2 ⟨rfl, hb⟩; have n0_ := Aside0.mk (B1.step HD.out hb); clear HD hb; have HD := n0_; clear n0_; have c0 := blk_cell HD.out.2 0; have c1 := blk_cell HD.out.2 1; have c2 := blk_cell HD.out.2 2; have c3 := blk_cell HD.out.2 3; change _ = some (Value.int .i64 2) at c0; change _ = some (Value.string a0_1) at c1; change _ = some (Value.bool true) at c2; change _ = some (Value.bool true) at c3))
      go_ret2
      exact ⟨by rw [lineR_true_true]; rfl, HD.out.1⟩
   ·cases a0_2 with
    | false =>
     cases a0_3 with
     | false =>
      have hx : ((⟨#[43, 45, 80, 82]⟩ : ByteArray).extract 2 3) = ⟨#[80]⟩ := by decide
      have HD := Aside0.mk (B1.start 24 w #[.int .i64 3, .string a0_1, .bool false, .bool false])
      go_enter Tryd.func32, Tryd.ntmps32
      go_wp2_with (first | ((with_reducible refine gate_dst (N := 6) rfl ?_); refine wpList_load_row rfl 24 (.tmp 1) rfl w.heap.size rfl 24 #[.int .i64 3, .string a0_1, .bool false, .bool false] (0, 0) _ HD.out.2 hu1 rfl (by kernel_rfl) ?_) | (go_at_call 40; (with_reducible refine (hck _).mono ?_); rintro e w2 ⟨rfl, hb⟩; have n0_ := Aside0.mk (B1.step HD.out hb); clear HD hb; have HD := n0_; clear n0_; have c0 := blk_cell HD.out.2 0; have c1 := blk_cell HD.out.2 1; have c2 := blk_cell HD.out.2 2; have c3 := blk_cell HD.out.2 3; change _ = some (Value.int .i64 3) at c0; change _ = some (Value.string a0_1) at c1; change _ = some (Value.bool false) at c2; change _ = some (Value.bool false) at c3))
      go_ret2
      exact ⟨by rw [lineR_false_false]; rfl, HD.out.1⟩
     | true =>
      have hx : ((⟨#[43, 45, 80, 82]⟩ : ByteArray).extract 2 3) = ⟨#[80]⟩ := by decide
      have HD := Aside0.mk (B1.start 24 w #[.int .i64 3, .string a0_1, .bool false, .bool true])
      go_enter Tryd.func32, Tryd.ntmps32
      go_wp2_with (first | ((with_reducible refine gate_dst (N := 6) rfl ?_); refine wpList_load_row rfl 24 (.tmp 1) rfl w.heap.size rfl 24 #[.int .i64 3, .string a0_1, .bool false, .bool true] (0, 0) _ HD.out.2 hu1 rfl (by kernel_rfl) ?_) | (go_at_call 40; (with_reducible refine (hck _).mono ?_); rintro e w2 ⟨rfl, hb⟩; have n0_ := Aside0.mk (B1.step HD.out hb); clear HD hb; have HD := n0_; clear n0_; have c0 := blk_cell HD.out.2 0; have c1 := blk_cell HD.out.2 1; have c2 := blk_cell HD.out.2 2; have c3 := blk_cell HD.out.2 3; change _ = some (Value.int .i64 3) at c0; change _ = some (Value.string a0_1) at c1; change _ = some (Value.bool false) at c2; change _ = some (Value.bool true) at c3))
      go_ret2
      exact ⟨by rw [lineR_false_true]; rfl, HD.out.1⟩
    | true =>
     cases a0_3 with
     | false =>
      have hx : ((⟨#[43, 45, 80, 82]⟩ : ByteArray).extract 2 3) = ⟨#[80]⟩ := by decide
      have HD := Aside0.mk (B1.start 24 w #[.int .i64 3, .string a0_1, .bool true, .bool false])
      go_enter Tryd.func32, Tryd.ntmps32
      go_wp2_with (first | ((with_reducible refine gate_dst (N := 6) rfl ?_); refine wpList_load_row rfl 24 (.tmp 1) rfl w.heap.size rfl 24 #[.int .i64 3, .string a0_1, .bool true, .bool false] (0, 0) _ HD.out.2 hu1 rfl (by kernel_rfl) ?_) | (go_at_call 40; (with_reducible refine (hck _).mono ?_); rintro e w2 ⟨rfl, hb⟩; have n0_ := Aside0.mk (B1.step HD.out hb); clear HD hb; have HD := n0_; clear n0_; have c0 := blk_cell HD.out.2 0; have c1 := blk_cell HD.out.2 1; have c2 := blk_cell HD.out.2 2; have c3 := blk_cell HD.out.2 3; change _ = some (Value.int .i64 3) at c0; change _ = some (Value.string a0_1) at c1; change _ = some (Value.bool true) at c2; change _ = some (Value.bool false) at c3))
      go_ret2
      exact ⟨by rw [lineR_true_false]; rfl, HD.out.1⟩
     | true =>
      have hx : ((⟨#[43, 45, 80, 82]⟩ : ByteArray).extract 2 3) = ⟨#[80]⟩ := by decide
      have HD := Aside0.mk (B1.start 24 w #[.int .i64 3, .string a0_1, .bool true, .bool true])
      go_enter Tryd.func32, Tryd.ntmps32
      go_wp2_with (first | ((with_reducible refine gate_dst (N := 6) rfl ?_); refine wpList_load_row rfl 24 (.tmp 1) rfl w.heap.size rfl 24 #[.int .i64 3, .string a0_1, .bool true, .bool true] (0, 0) _ HD.out.2 hu1 rfl (by kernel_rfl) ?_) | (go_at_call 40; (with_reducible refine (hck _).mono ?_); rintro e w2 ⟨rfl, hb⟩; have n0_ := Aside0.mk (B1.step HD.out hb); clear HD hb; have HD := n0_; clear n0_; have c0 := blk_cell HD.out.2 0; have c1 := blk_cell HD.out.2 1; have c2 := blk_cell HD.out.2 2; have c3 := blk_cell HD.out.2 3; change _ = some (Value.int .i64 3) at c0; change _ = some (Value.string a0_1) at c1; change _ = some (Value.bool true) at c2; change _ = some (Value.bool true) at c3))
      go_ret2
      exact ⟨by rw [lineR_true_true]; rfl, HD.out.1⟩
   ·cases a0_2 with
    | false =>
     cases a0_3 with
     | false =>
      have hx : ((⟨#[43, 45, 80, 82]⟩ : ByteArray).extract 3 4) = ⟨#[82]⟩ := by decide
      have HD := Aside0.mk (B1.start 24 w #[.int .i64 4, .string a0_1, .bool false, .bool false])
      go_enter Tryd.func32, Tryd.ntmps32
      go_wp2_with (first | ((with_reducible refine gate_dst (N := 6) rfl ?_); refine wpList_load_row rfl 24 (.tmp 1) rfl w.heap.size rfl 24 #[.int .i64 4, .string a0_1, .bool false, .bool false] (0, 0) _ HD.out.2 hu1 rfl (by kernel_rfl) ?_) | (go_at_call 40; (with_reducible refine (hck _).mono ?_); rintro e w2 ⟨rfl, hb⟩; have n0_ := Aside0.mk (B1.step HD.out hb); clear HD hb; have HD := n0_; clear n0_; have c0 := blk_cell HD.out.2 0; have c1 := blk_cell HD.out.2 1; have c2 := blk_cell HD.out.2 2; have c3 := blk_cell HD.out.2 3; change _ = some (Value.int .i64 4) at c0; change _ = some (Value.string a0_1) at c1; change _ = some (Value.bool false) at c2; change _ = some (Value.bool false) at c3))
      go_ret2
      exact ⟨by rw [lineR_false_false]; rfl, HD.out.1⟩
     | true =>
      have hx : ((⟨#[43, 45, 80, 82]⟩ : ByteArray).extract 3 4) = ⟨#[82]⟩ := by decide
      have HD := Aside0.mk (B1.start 24 w #[.int .i64 4, .string a0_1, .bool false, .bool true])
      go_enter Tryd.func32, Tryd.ntmps32
      go_wp2_with (first | ((with_reducible refine gate_dst (N := 6) rfl ?_); refine wpList_load_row rfl 24 (.tmp 1) rfl w.heap.size rfl 24 #[.int .i64 4, .string a0_1, .bool false, .bool true] (0, 0) _ HD.out.2 hu1 rfl (by kernel_rfl) ?_) | (go_at_call 40; (with_reducible refine (hck _).mono ?_); rintro e w2 ⟨rfl, hb⟩; have n0_ := Aside0.mk (B1.step HD.out hb); clear HD hb; have HD := n0_; clear n0_; have c0 := blk_cell HD.out.2 0; have c1 := blk_cell HD.out.2 1; have c2 := blk_cell HD.out.2 2; have c3 := blk_cell HD.out.2 3; change _ = some (Value.int .i64 4) at c0; change _ = some (Value.string a0_1) at c1; change _ = some (Value.bool false) at c2; change _ = some (Value.bool true) at c3))
      go_ret2
      exact ⟨by rw [lineR_false_true]; rfl, HD.out.1⟩
    | true =>
     cases a0_3 with
     | false =>
      have hx : ((⟨#[43, 45, 80, 82]⟩ : ByteArray).extract 3 4) = ⟨#[82]⟩ := by decide
      have HD := Aside0.mk (B1.start 24 w #[.int .i64 4, .string a0_1, .bool true, .bool false])
      go_enter Tryd.func32, Tryd.ntmps32
      go_wp2_with (first | ((with_reducible refine gate_dst (N := 6) rfl ?_); refine wpList_load_row rfl 24 (.tmp 1) rfl w.heap.size rfl 24 #[.int .i64 4, .string a0_1, .bool true, .bool false] (0, 0) _ HD.out.2 hu1 rfl (by kernel_rfl) ?_) | (go_at_call 40; (with_reducible refine (hck _).mono ?_); rintro e w2 ⟨rfl, hb⟩; have n0_ := Aside0.mk (B1.step HD.out hb); clear HD hb; have HD := n0_; clear n0_; have c0 := blk_cell HD.out.2 0; have c1 := blk_cell HD.out.2 1; have c2 := blk_cell HD.out.2 2; have c3 := blk_cell HD.out.2 3; change _ = some (Value.int .i64 4) at c0; change _ = some (Value.string a0_1) at c1; change _ = some (Value.bool true) at c2; change _ = some (Value.bool false) at c3))
      go_ret2
      exact ⟨by rw [lineR_true_false]; rfl, HD.out.1⟩
     | true =>
      have hx : ((⟨#[43, 45, 80, 82]⟩ : ByteArray).extract 3 4) = ⟨#[82]⟩ := by decide
      have HD := Aside0.mk (B1.start 24 w #[.int .i64 4, .string a0_1, .bool true, .bool true])
      go_enter Tryd.func32, Tryd.ntmps32
      go_wp2_with (first | ((with_reducible refine gate_dst (N := 6) rfl ?_); refine wpList_load_row rfl 24 (.tmp 1) rfl w.heap.size rfl 24 #[.int .i64 4, .string a0_1, .bool true, .bool true] (0, 0) _ HD.out.2 hu1 rfl (by kernel_rfl) ?_) | (go_at_call 40; (with_reducible refine (hck _).mono ?_); rintro e w2 ⟨rfl, hb⟩; have n0_ := Aside0.mk (B1.step HD.out hb); clear HD hb; have HD := n0_; clear n0_; have c0 := blk_cell HD.out.2 0; have c1 := blk_cell HD.out.2 1; have c2 := blk_cell HD.out.2 2; have c3 := blk_cell HD.out.2 3; change _ = some (Value.int .i64 4) at c0; change _ = some (Value.string a0_1) at c1; change _ = some (Value.bool true) at c2; change _ = some (Value.bool true) at c3))
      go_ret2
      exact ⟨by rw [lineR_true_true]; rfl, HD.out.1⟩
  ·rw [if_neg hz] at h
   obtain ⟨rfl, rfl⟩ := Prod.mk.inj (Option.some.inj h)
   have q1 : (er != 0) = true := bne_iff_ne.2 hz
   clear h he
   have HD := Aside0.mk (B1.start 24 w #[.int .i64 a0_0, .string a0_1, .bool a0_2, .bool a0_3])
   go_enter Tryd.func32, Tryd.ntmps32
   go_wp2_with (first | ((with_reducible refine gate_dst (N := 6) rfl ?_); refine wpList_load_row rfl 24 (.tmp 1) rfl w.heap.size rfl 24 #[.int .i64 a0_0, .string a0_1, .bool a0_2, .bool a0_3] (0, 0) _ HD.out.2 hu1 rfl (by kernel_rfl) ?_) | (go_at_call 40; (with_reducible refine (hck _).mono ?_); rintro e w2 ⟨rfl, hb⟩; have n0_ := Aside0.mk (B1.step HD.out hb); clear HD hb; have HD := n0_; clear n0_))
   go_ret2
   exact ⟨rfl, HD.out.1⟩
 ·cases h
end Go.Proofs.YtioehkeocddniaaDoor.PA
namespace Go.Proofs.YtioehkeocddniaaDoor.PA
open Go.RowKit Go.Proofs.YtioehkeocddniaaDoorW.PrintWords Go.Proofs.YtioehkeocddniaaDoorW.PrintLast Go.Proofs.YtioehkeocddniaaDoorW.PrintMore
attribute [local go_sem] max2_int min2_int max_two min_two max_three min_three max_four min_four   -- for this text's walks alone
set_option linter.unusedVariables false
set_option linter.unusedSimpArgs false
def remoraref15_Text.l0 : Nat → ByteArray → List (S24) → Int → Int → Option (ByteArray × Int)
 | 0, _, _, _, _ => none
 | k + 1, x5, x15, x16, x17 => if x17 < x16 then (if 0 ≤ x17 then (if x17 < (x15.length : Int) then ((remoraref15_Print.f ((rd_T24 x15 x17).f0) ((rd_T24 x15 x17).f1) ((rd_T24 x15 x17).f2) ((rd_T24 x15 x17).f3)).bind fun bt104 => (if bt104.1.size + 1 ≤ 9223372036854775807 then (if x5.size + (bt104.1 ++ (⟨#[10]⟩ : ByteArray)).size ≤ 9223372036854775807 then (remoraref15_Text.l0 k (x5 ++ (bt104.1 ++ (⟨#[10]⟩ : ByteArray))) x15 x16 (wrap64 (x17 + 1))) else (none)) else (none))) else (none)) else (none)) else (some (x5, 0))
def remoraref15_Text.f (k : Nat) (l0 : List (S24)) : Option (ByteArray × Int) := (remoraref15_Check.f k l0).bind fun t101 => (if t101 = 0 then (remoraref15_Text.l0 k (⟨#[]⟩ : ByteArray) l0 (l0.length : Int) 0) else (some ((⟨#[]⟩ : ByteArray), t101)))
set_option maxHeartbeats 8000000 in
set_option maxRecDepth 100000 in
theorem remoraref15_Text.calls (k : Nat) (A0 : Option Addr) (c0 : Nat) (l0 : List (S24)) (r1 : ByteArray) (r2 : Int) (w : World) (hr0 : Kd.C k24 w A0 l0.length l0) (hc0 : l0.length ≤ c0) (h : remoraref15_Text.f k l0 = some (r1, r2)) :
  Calls Tryd.prog 30 #[.slice A0 l0.length c0] w fun e w' => e = .returned (.tuple #[.string r1, .int .i64 r2]) ∧ Below w.heap.size w w' := by
 have hu24 := Tryd.underlying24
 have HR0 := Aside0.mk hr0
 have HC0 := Aside0.mk hc0
 clear hr0 hc0
 have HB := Aside0.mk (Below.refl w.heap.size w)
 have H : ((remoraref15_Check.f k l0).bind fun t101 => (if t101 = 0 then (remoraref15_Text.l0 k (⟨#[]⟩ : ByteArray) l0 (l0.length : Int) 0) else (some ((⟨#[]⟩ : ByteArray), t101)))) = some (r1, r2) := h
 clear h
 replace H := Option.bind_eq_some_iff.mp H
 obtain ⟨t101, A20, H⟩ := H
 replace H : (if t101 = 0 then (remoraref15_Text.l0 k (⟨#[]⟩ : ByteArray) l0 (l0.length : Int) 0) else (some ((⟨#[]⟩ : ByteArray), t101))) = some (r1, r2) := H
 have A2 := Aside0.mk A20
 clear A20
 by_cases c3 : t101 = 0
 ·rw [if_pos c3] at H
  have c3b0 : (t101 == 0) = true := beq_iff_eq.mpr c3
  have c3b1 : (t101 != 0) = false := bne_eq_false_iff_eq.mpr c3
  clear c3
  have H' := Aside0.mk H
  clear H
  go_enter Tryd.func30, Tryd.ntmps30
  go_wp2_with (first | ((with_reducible refine gate_callee (f := 33) rfl ?_); refine goesL_ (some 11) rfl rfl Tryd.func33 (by kernel_rfl) rfl #[.slice A0 l0.length c0] rfl (by (try simp only [List.map_toArray, List.map_cons, List.map_nil]); first | done | rfl | (simp only [List.length_drop, List.length_take]; rfl)) ?_; (with_reducible refine (remoraref15_Check.calls k _ _ l0 t101 _ ?side1 ?side2 A2.out).mono ?_); (case side1 => repeat (first | exact HR0.out | (with_reducible refine Kd.C_alloc ?_ _) | (with_reducible refine Kd.C_drewN ?_ _) | (with_reducible refine Kd.C_drew ?_))); (case side2 => exact HC0.out); rintro e w4 ⟨rfl, hb⟩; refine ⟨_, rfl, ?_⟩; have n0_ := Aside0.mk (below_step (by repeat (first | (with_reducible first | exact HB.out | apply below_alloc | apply pw_below_drewN | apply below_drew1) | exact HB.out)) hb); clear HB; have HB := n0_; clear n0_; (try clear hb); (try clear hb2); (try clear hk); (try clear hi)))
  go_loopg [5, 17] k (fun kq v5 v17 w' => ∃ (x5_1 : ByteArray) (x17_1 : Int), v5 = .string x5_1 ∧ v17 = .int .i64 x17_1 ∧ Aside0 (remoraref15_Text.l0 kq x5_1 l0 (l0.length : Int) x17_1 = some (r1, r2)) ∧ Aside0 (kq ≤ k) ∧ Aside0 (Below w.heap.size w w'))
  case atStart => exact ⟨((⟨#[]⟩ : ByteArray)), (0), (by first | rfl | (simp; done) | (simp [*]; done)), (by first | rfl | (simp; done) | (simp [*]; done)), H', ⟨Nat.le_refl _⟩, ⟨by repeat (first | (with_reducible first | exact HB.out | apply below_alloc | apply pw_below_drewN | apply below_drew1) | exact HB.out)⟩⟩
  case round =>
   clear H'
   try clear p2
   try clear c3
   try clear c3b0
   try clear c3b1
   obtain ⟨x5_1, x17_1, rfl, rfl, HA, HK1, HB⟩ := hrel
   cases gk with
   | zero => exact absurd HA.out (by simp [remoraref15_Text.l0])
   | succ k1 =>
    have H := HA.out
    clear HA
    simp only [remoraref15_Text.l0] at H
    by_cases c5 : x17_1 < (l0.length : Int)
    ·rw [if_pos c5] at H
     have c5b0 : decide (x17_1 < (l0.length : Int)) = true := decide_eq_true c5
     clear c5
     by_cases c6 : 0 ≤ x17_1
     ·rw [if_pos c6] at H
      have c6b0 : decide (0 ≤ x17_1) = true := decide_eq_true c6
      clear c6
      by_cases c7 : x17_1 < (l0.length : Int)
      ·rw [if_pos c7] at H
       have c7b0 : decide (x17_1 < (l0.length : Int)) = true := decide_eq_true c7
       clear c7
       replace H := Option.bind_eq_some_iff.mp H
       obtain ⟨⟨t104, t105⟩, A80, H⟩ := H
       replace H : (if t104.size + 1 ≤ 9223372036854775807 then (if x5_1.size + (t104 ++ (⟨#[10]⟩ : ByteArray)).size ≤ 9223372036854775807 then (remoraref15_Text.l0 k1 (x5_1 ++ (t104 ++ (⟨#[10]⟩ : ByteArray))) l0 (l0.length : Int) (wrap64 (x17_1 + 1))) else (none)) else (none)) = some (r1, r2) := H
       have A8 := Aside0.mk A80
       clear A80
       by_cases c9 : t104.size + 1 ≤ 9223372036854775807
       ·rw [if_pos c9] at H
        have c9b0 := eq_true c9
        have c9b1 : decide (t104.size + 1 ≤ 9223372036854775807) = true := decide_eq_true c9
        try have c9b2 : (9223372036854775807 < t104.size + 1) = False := eq_false (Nat.not_lt.2 c9)
        by_cases c10 : x5_1.size + (t104 ++ (⟨#[10]⟩ : ByteArray)).size ≤ 9223372036854775807
        ·rw [if_pos c10] at H
         have c10b0 := eq_true c10
         have c10b1 : decide (x5_1.size + (t104 ++ (⟨#[10]⟩ : ByteArray)).size ≤ 9223372036854775807) = true := decide_eq_true c10
         try have c10b2 : (9223372036854775807 < x5_1.size + (t104 ++ (⟨#[10]⟩ : ByteArray)).size) = False := eq_false (Nat.not_lt.2 c10)
         have H' := Aside0.mk H
         clear H
         have p102 : 0 ≤ (x17_1 : Int) := of_decide_eq_true (by first | (with_reducible assumption) | assumption)
         have q102 : x17_1 < (l0.length : Int) := of_decide_eq_true (by first | (with_reducible assumption) | assumption)
         obtain ⟨ad102, e102, hx102_0, hx102_1, hx102_2, hx102_3⟩ := at_T24 HR0.out x17_1 p102 q102
         cases e102
         replace hx102_0 := (HB.out.cell (World.block_lt_of_cell? w _ hx102_0)).trans hx102_0
         replace hx102_1 := (HB.out.cell (World.block_lt_of_cell? w _ hx102_1)).trans hx102_1
         replace hx102_2 := (HB.out.cell (World.block_lt_of_cell? w _ hx102_2)).trans hx102_2
         replace hx102_3 := (HB.out.cell (World.block_lt_of_cell? w _ hx102_3)).trans hx102_3
         replace p102 := eq_true p102
         replace q102 := eq_true q102
         go_wp2_with (first | ((with_reducible refine gate_dst (N := 7) rfl ?_); refine box_event ?hg (N := 7) ?hd (cs := #[.int .i64 0, .string (⟨#[]⟩ : ByteArray), .bool false, .bool false]) (t := 24) ?hr ?_; (case hd => rfl); (case hg => rfl); (case hr => first | (go_simp; done) | (go_simp; rfl)); intro gb103 hg w11 hbox hb; have n0_ := Aside0.mk (below_step (by repeat (first | (with_reducible first | exact HB.out | apply below_alloc | apply pw_below_drewN | apply below_drew1) | exact HB.out)) hb); have n1_ := Aside0.mk (hbox); have n2_ := Aside0.mk ((by rw [hg]; exact (below_size (by repeat (first | (with_reducible first | exact HB.out | apply below_alloc | apply pw_below_drewN | apply below_drew1) | exact HB.out))) : w.heap.size ≤ gb103)); have n3_ := Aside0.mk ((by rw [hg]; exact (below_size (by repeat (first | (with_reducible first | exact HB.out | apply below_alloc | apply pw_below_drewN | apply below_drew1) | exact HB.out))) : w.heap.size ≤ gb103)); clear HB; have HB := n0_; have BK103 := n1_; have GW103 := n2_; have GE103 := n3_; clear n0_ n1_ n2_ n3_; clear hb hbox hg; have hcz12_0 : w11.cell? ⟨gb103, 0, none⟩ = some (.int .i64 0) := (blk_cell BK103.out 0).trans rfl; have hcz12_1 : w11.cell? ⟨gb103, 1, none⟩ = some (.string (⟨#[]⟩ : ByteArray)) := (blk_cell BK103.out 1).trans rfl; have hcz12_2 : w11.cell? ⟨gb103, 2, none⟩ = some (.bool false) := (blk_cell BK103.out 2).trans rfl; have hcz12_3 : w11.cell? ⟨gb103, 3, none⟩ = some (.bool false) := (blk_cell BK103.out 3).trans rfl; have hfz12_0 := blk_frozen BK103.out 0; have hfz12_1 := blk_frozen BK103.out 1; have hfz12_2 := blk_frozen BK103.out 2; have hfz12_3 := blk_frozen BK103.out 3) | ((with_reducible refine gate_callee (f := 32) rfl ?_); refine goesL_ (some 23) rfl rfl Tryd.func32 (by kernel_rfl) rfl #[.agg #[.int .i64 ((rd_T24 l0 x17_1).f0), .string ((rd_T24 l0 x17_1).f1), .bool ((rd_T24 l0 x17_1).f2), .bool ((rd_T24 l0 x17_1).f3)]] rfl (by (try simp only [List.map_toArray, List.map_cons, List.map_nil]); first | done | rfl | (simp only [List.length_drop, List.length_take]; rfl)) ?_; (with_reducible refine (remoraref15_Print.calls ((rd_T24 l0 x17_1).f0) ((rd_T24 l0 x17_1).f1) ((rd_T24 l0 x17_1).f2) ((rd_T24 l0 x17_1).f3) t104 t105 _ A8.out).mono ?_); rintro e w13 ⟨rfl, hb⟩; refine ⟨_, rfl, ?_⟩; have n0_ := Aside0.mk (blk_below (g := gb103) (o := .cells #[.int .i64 ((rd_T24 l0 x17_1).f0), .string ((rd_T24 l0 x17_1).f1), .bool ((rd_T24 l0 x17_1).f2), .bool ((rd_T24 l0 x17_1).f3)] 24 (0, 0)) (by (with_reducible repeat (first | refine blk_drewN ?_ _ | refine blk_drew ?_ | refine blk_alloc ?_ _)); refine blk_put (cs := #[.int .i64 ((rd_T24 l0 x17_1).f0), .string ((rd_T24 l0 x17_1).f1), .bool ((rd_T24 l0 x17_1).f2), .bool false]) ?_ 3 _ rfl; (with_reducible repeat (first | refine blk_drewN ?_ _ | refine blk_drew ?_ | refine blk_alloc ?_ _)); refine blk_put (cs := #[.int .i64 ((rd_T24 l0 x17_1).f0), .string ((rd_T24 l0 x17_1).f1), .bool false, .bool false]) ?_ 2 _ rfl; (with_reducible repeat (first | refine blk_drewN ?_ _ | refine blk_drew ?_ | refine blk_alloc ?_ _)); refine blk_put (cs := #[.int .i64 ((rd_T24 l0 x17_1).f0), .string (⟨#[]⟩ : ByteArray), .bool false, .bool false]) ?_ 1 _ rfl; (with_reducible repeat (first | refine blk_drewN ?_ _ | refine blk_drew ?_ | refine blk_alloc ?_ _)); refine blk_put (cs := #[.int .i64 0, .string (⟨#[]⟩ : ByteArray), .bool false, .bool false]) ?_ 0 _ rfl; (with_reducible repeat (first | refine blk_drewN ?_ _ | refine blk_drew ?_ | refine blk_alloc ?_ _)); exact BK103.out) hb); have n1_ := Aside0.mk (below_step (by repeat (first | (with_reducible first | exact HB.out | apply below_alloc | apply pw_below_drewN | apply below_drew1 | refine below_set ?_ GE103.out) | exact HB.out)) hb); clear BK103; clear HB; have BK103 := n0_; have HB := n1_; clear n0_ n1_; (try clear hb); (try clear hb2); (try clear hk); (try clear hi)))
         go_roundg k1
         case measure => have := HK1.out; omega
         case rel => exact ⟨(x5_1 ++ (t104 ++ (⟨#[10]⟩ : ByteArray))), (wrap64 (x17_1 + 1)), (by first | rfl | (simp; done) | (simp [*]; done)), (by first | rfl | (simp; done) | (simp [*]; done)), H', ⟨by have := HK1.out; omega⟩, ⟨by repeat (first | (with_reducible first | exact HB.out | apply below_alloc | apply pw_below_drewN | apply below_drew1 | refine below_set ?_ GE103.out) | exact HB.out)⟩⟩
        ·rw [if_neg c10] at H
         exact absurd H (by simp)
       ·rw [if_neg c9] at H
        exact absurd H (by simp)
      ·rw [if_neg c7] at H
       exact absurd H (by simp)
     ·rw [if_neg c6] at H
      exact absurd H (by simp)
    ·rw [if_neg c5] at H
     have c5b0 : decide (x17_1 < (l0.length : Int)) = false := decide_eq_false c5
     clear c5
     simp only [Option.some.injEq, Prod.mk.injEq] at H
     obtain ⟨rfl, rfl⟩ := H
     go_wp2
     go_ret2
     exact ⟨by first | rfl | (simp [errW_none, errW_some] <;> rfl) | (simp [*, errW_none, errW_some] <;> rfl), by repeat (first | (with_reducible first | exact HB.out | apply below_alloc | apply pw_below_drewN | apply below_drew1) | exact HB.out)⟩
 ·rw [if_neg c3] at H
  have c3b0 : (t101 == 0) = false := beq_eq_false_iff_ne.mpr c3
  have c3b1 : (t101 != 0) = true := bne_iff_ne.mpr c3
  simp only [Option.some.injEq, Prod.mk.injEq] at H
  obtain ⟨rfl, rfl⟩ := H
  go_enter Tryd.func30, Tryd.ntmps30
  go_wp2_with (first | ((with_reducible refine gate_callee (f := 33) rfl ?_); refine goesL_ (some 11) rfl rfl Tryd.func33 (by kernel_rfl) rfl #[.slice A0 l0.length c0] rfl (by (try simp only [List.map_toArray, List.map_cons, List.map_nil]); first | done | rfl | (simp only [List.length_drop, List.length_take]; rfl)) ?_; (with_reducible refine (remoraref15_Check.calls k _ _ l0 t101 _ ?side1 ?side2 A2.out).mono ?_); (case side1 => repeat (first | exact HR0.out | (with_reducible refine Kd.C_alloc ?_ _) | (with_reducible refine Kd.C_drewN ?_ _) | (with_reducible refine Kd.C_drew ?_))); (case side2 => exact HC0.out); rintro e w14 ⟨rfl, hb⟩; refine ⟨_, rfl, ?_⟩; have n0_ := Aside0.mk (below_step (by repeat (first | (with_reducible first | exact HB.out | apply below_alloc | apply pw_below_drewN | apply below_drew1) | exact HB.out)) hb); clear HB; have HB := n0_; clear n0_; (try clear hb); (try clear hb2); (try clear hk); (try clear hi)))
  go_ret2
  exact ⟨by first | rfl | (simp [errW_none, errW_some] <;> rfl) | (simp [*, errW_none, errW_some] <;> rfl), by repeat (first | (with_reducible first | exact HB.out | apply below_alloc | apply pw_below_drewN | apply below_drew1) | exact HB.out)⟩
end Go.Proofs.YtioehkeocddniaaDoor.PA
namespace Go.Proofs.YtioehkeocddniaaDoor.PA
open Go.RowKit Go.Proofs.YtioehkeocddniaaDoorW.PrintWords Go.Proofs.YtioehkeocddniaaDoorW.PrintLast Go.Proofs.YtioehkeocddniaaDoorW.PrintMore
attribute [local go_sem] max2_int min2_int max_two min_two max_three min_three max_four min_four   -- for this text's walks alone
set_option linter.unusedVariables false
set_option linter.unusedSimpArgs false
def rules_Text.l0 : Nat → ByteArray → List (S24) → Int → Int → Option (ByteArray × Int)
 | 0, _, _, _, _ => none
 | k + 1, x5, x15, x16, x17 => if x17 < x16 then (if 0 ≤ x17 then (if x17 < (x15.length : Int) then ((rules_Print.f ((rd_T24 x15 x17).f0) ((rd_T24 x15 x17).f1) ((rd_T24 x15 x17).f2) ((rd_T24 x15 x17).f3)).bind fun bt104 => (if bt104.1.size + 1 ≤ 9223372036854775807 then (if x5.size + (bt104.1 ++ (⟨#[10]⟩ : ByteArray)).size ≤ 9223372036854775807 then (rules_Text.l0 k (x5 ++ (bt104.1 ++ (⟨#[10]⟩ : ByteArray))) x15 x16 (wrap64 (x17 + 1))) else (none)) else (none))) else (none)) else (none)) else (some (x5, 0))
def rules_Text.f (k : Nat) (l0 : List (S24)) : Option (ByteArray × Int) := (rules_Check.f k l0).bind fun t101 => (if t101 = 0 then (rules_Text.l0 k (⟨#[]⟩ : ByteArray) l0 (l0.length : Int) 0) else (some ((⟨#[]⟩ : ByteArray), t101)))
set_option maxHeartbeats 8000000 in
set_option maxRecDepth 100000 in
theorem rules_Text.calls (k : Nat) (A0 : Option Addr) (c0 : Nat) (l0 : List (S24)) (r1 : ByteArray) (r2 : Int) (w : World) (hr0 : Kd.C k24 w A0 l0.length l0) (hc0 : l0.length ≤ c0) (h : rules_Text.f k l0 = some (r1, r2)) :
  Calls Tryd.prog 29 #[.slice A0 l0.length c0] w fun e w' => e = .returned (.tuple #[.string r1, .int .i64 r2]) ∧ Below w.heap.size w w' := by
 have hu24 := Tryd.underlying24
 have HR0 := Aside0.mk hr0
 have HC0 := Aside0.mk hc0
 clear hr0 hc0
 have HB := Aside0.mk (Below.refl w.heap.size w)
 have H : ((rules_Check.f k l0).bind fun t101 => (if t101 = 0 then (rules_Text.l0 k (⟨#[]⟩ : ByteArray) l0 (l0.length : Int) 0) else (some ((⟨#[]⟩ : ByteArray), t101)))) = some (r1, r2) := h
 clear h
 replace H := Option.bind_eq_some_iff.mp H
 obtain ⟨t101, A20, H⟩ := H
 replace H : (if t101 = 0 then (rules_Text.l0 k (⟨#[]⟩ : ByteArray) l0 (l0.length : Int) 0) else (some ((⟨#[]⟩ : ByteArray), t101))) = some (r1, r2) := H
 have A2 := Aside0.mk A20
 clear A20
 by_cases c3 : t101 = 0
 ·rw [if_pos c3] at H
  have c3b0 : (t101 == 0) = true := beq_iff_eq.mpr c3
  have c3b1 : (t101 != 0) = false := bne_eq_false_iff_eq.mpr c3
  clear c3
  have H' := Aside0.mk H
  clear H
  go_enter Tryd.func29, Tryd.ntmps29
  go_wp2_with (first | ((with_reducible refine gate_callee (f := 26) rfl ?_); refine goesL_ (some 11) rfl rfl Tryd.func26 (by kernel_rfl) rfl #[.slice A0 l0.length c0] rfl (by (try simp only [List.map_toArray, List.map_cons, List.map_nil]); first | done | rfl | (simp only [List.length_drop, List.length_take]; rfl)) ?_; (with_reducible refine (rules_Check.calls k _ _ l0 t101 _ ?side1 ?side2 A2.out).mono ?_); (case side1 => repeat (first | exact HR0.out | (with_reducible refine Kd.C_alloc ?_ _) | (with_reducible refine Kd.C_drewN ?_ _) | (with_reducible refine Kd.C_drew ?_))); (case side2 => exact HC0.out); rintro e w4 ⟨rfl, hb⟩; refine ⟨_, rfl, ?_⟩; have n0_ := Aside0.mk (below_step (by repeat (first | (with_reducible first | exact HB.out | apply below_alloc | apply pw_below_drewN | apply below_drew1) | exact HB.out)) hb); clear HB; have HB := n0_; clear n0_; (try clear hb); (try clear hb2); (try clear hk); (try clear hi)))
  go_loopg [5, 17] k (fun kq v5 v17 w' => ∃ (x5_1 : ByteArray) (x17_1 : Int), v5 = .string x5_1 ∧ v17 = .int .i64 x17_1 ∧ Aside0 (rules_Text.l0 kq x5_1 l0 (l0.length : Int) x17_1 = some (r1, r2)) ∧ Aside0 (kq ≤ k) ∧ Aside0 (Below w.heap.size w w'))
  case atStart => exact ⟨((⟨#[]⟩ : ByteArray)), (0), (by first | rfl | (simp; done) | (simp [*]; done)), (by first | rfl | (simp; done) | (simp [*]; done)), H', ⟨Nat.le_refl _⟩, ⟨by repeat (first | (with_reducible first | exact HB.out | apply below_alloc | apply pw_below_drewN | apply below_drew1) | exact HB.out)⟩⟩
  case round =>
   clear H'
   try clear c2
   try clear p2
   try clear c3
   try clear c3b0
   try clear c3b1
   obtain ⟨x5_1, x17_1, rfl, rfl, HA, HK1, HB⟩ := hrel
   cases gk with
   | zero => exact absurd HA.out (by simp [rules_Text.l0])
   | succ k1 =>
    have H := HA.out
    clear HA
    simp only [rules_Text.l0] at H
    by_cases c5 : x17_1 < (l0.length : Int)
    ·rw [if_pos c5] at H
     have c5b0 : decide (x17_1 < (l0.length : Int)) = true := decide_eq_true c5
     clear c5
     by_cases c6 : 0 ≤ x17_1
     ·rw [if_pos c6] at H
      have c6b0 : decide (0 ≤ x17_1) = true := decide_eq_true c6
      clear c6
      by_cases c7 : x17_1 < (l0.length : Int)
      ·rw [if_pos c7] at H
       have c7b0 : decide (x17_1 < (l0.length : Int)) = true := decide_eq_true c7
       clear c7
       replace H := Option.bind_eq_some_iff.mp H
       obtain ⟨⟨t104, t105⟩, A80, H⟩ := H
       replace H : (if t104.size + 1 ≤ 9223372036854775807 then (if x5_1.size + (t104 ++ (⟨#[10]⟩ : ByteArray)).size ≤ 9223372036854775807 then (rules_Text.l0 k1 (x5_1 ++ (t104 ++ (⟨#[10]⟩ : ByteArray))) l0 (l0.length : Int) (wrap64 (x17_1 + 1))) else (none)) else (none)) = some (r1, r2) := H
       have A8 := Aside0.mk A80
       clear A80
       by_cases c9 : t104.size + 1 ≤ 9223372036854775807
       ·rw [if_pos c9] at H
        have c9b0 := eq_true c9
        have c9b1 : decide (t104.size + 1 ≤ 9223372036854775807) = true := decide_eq_true c9
        try have c9b2 : (9223372036854775807 < t104.size + 1) = False := eq_false (Nat.not_lt.2 c9)
        by_cases c10 : x5_1.size + (t104 ++ (⟨#[10]⟩ : ByteArray)).size ≤ 9223372036854775807
        ·rw [if_pos c10] at H
         have c10b0 := eq_true c10
         have c10b1 : decide (x5_1.size + (t104 ++ (⟨#[10]⟩ : ByteArray)).size ≤ 9223372036854775807) = true := decide_eq_true c10
         try have c10b2 : (9223372036854775807 < x5_1.size + (t104 ++ (⟨#[10]⟩ : ByteArray)).size) = False := eq_false (Nat.not_lt.2 c10)
         have H' := Aside0.mk H
         clear H
         have p102 : 0 ≤ (x17_1 : Int) := of_decide_eq_true (by first | (with_reducible assumption) | assumption)
         have q102 : x17_1 < (l0.length : Int) := of_decide_eq_true (by first | (with_reducible assumption) | assumption)
         obtain ⟨ad102, e102, hx102_0, hx102_1, hx102_2, hx102_3⟩ := at_T24 HR0.out x17_1 p102 q102
         cases e102
         replace hx102_0 := (HB.out.cell (World.block_lt_of_cell? w _ hx102_0)).trans hx102_0
         replace hx102_1 := (HB.out.cell (World.block_lt_of_cell? w _ hx102_1)).trans hx102_1
         replace hx102_2 := (HB.out.cell (World.block_lt_of_cell? w _ hx102_2)).trans hx102_2
         replace hx102_3 := (HB.out.cell (World.block_lt_of_cell? w _ hx102_3)).trans hx102_3
         replace p102 := eq_true p102
         replace q102 := eq_true q102
         go_wp2_with (first | ((with_reducible refine gate_dst (N := 7) rfl ?_); refine box_event ?hg (N := 7) ?hd (cs := #[.int .i64 0, .string (⟨#[]⟩ : ByteArray), .bool false, .bool false]) (t := 24) ?hr ?_; (case hd => rfl); (case hg => rfl); (case hr => first | (go_simp; done) | (go_simp; rfl)); intro gb103 hg w11 hbox hb; have n0_ := Aside0.mk (below_step (by repeat (first | (with_reducible first | exact HB.out | apply below_alloc | apply pw_below_drewN | apply below_drew1) | exact HB.out)) hb); have n1_ := Aside0.mk (hbox); have n2_ := Aside0.mk ((by rw [hg]; exact (below_size (by repeat (first | (with_reducible first | exact HB.out | apply below_alloc | apply pw_below_drewN | apply below_drew1) | exact HB.out))) : w.heap.size ≤ gb103)); have n3_ := Aside0.mk ((by rw [hg]; exact (below_size (by repeat (first | (with_reducible first | exact HB.out | apply below_alloc | apply pw_below_drewN | apply below_drew1) | exact HB.out))) : w.heap.size ≤ gb103)); clear HB; have HB := n0_; have BK103 := n1_; have GW103 := n2_; have GE103 := n3_; clear n0_ n1_ n2_ n3_; clear hb hbox hg; have hcz12_0 : w11.cell? ⟨gb103, 0, none⟩ = some (.int .i64 0) := (blk_cell BK103.out 0).trans rfl; have hcz12_1 : w11.cell? ⟨gb103, 1, none⟩ = some (.string (⟨#[]⟩ : ByteArray)) := (blk_cell BK103.out 1).trans rfl; have hcz12_2 : w11.cell? ⟨gb103, 2, none⟩ = some (.bool false) := (blk_cell BK103.out 2).trans rfl; have hcz12_3 : w11.cell? ⟨gb103, 3, none⟩ = some (.bool false) := (blk_cell BK103.out 3).trans rfl; have hfz12_0 := blk_frozen BK103.out 0; have hfz12_1 := blk_frozen BK103.out 1; have hfz12_2 := blk_frozen BK103.out 2; have hfz12_3 := blk_frozen BK103.out 3) | ((with_reducible refine gate_callee (f := 31) rfl ?_); refine goesL_ (some 23) rfl rfl Tryd.func31 (by kernel_rfl) rfl #[.agg #[.int .i64 ((rd_T24 l0 x17_1).f0), .string ((rd_T24 l0 x17_1).f1), .bool ((rd_T24 l0 x17_1).f2), .bool ((rd_T24 l0 x17_1).f3)]] rfl (by (try simp only [List.map_toArray, List.map_cons, List.map_nil]); first | done | rfl | (simp only [List.length_drop, List.length_take]; rfl)) ?_; (with_reducible refine (rules_Print.calls ((rd_T24 l0 x17_1).f0) ((rd_T24 l0 x17_1).f1) ((rd_T24 l0 x17_1).f2) ((rd_T24 l0 x17_1).f3) t104 t105 _ A8.out).mono ?_); rintro e w13 ⟨rfl, hb⟩; refine ⟨_, rfl, ?_⟩; have n0_ := Aside0.mk (blk_below (g := gb103) (o := .cells #[.int .i64 ((rd_T24 l0 x17_1).f0), .string ((rd_T24 l0 x17_1).f1), .bool ((rd_T24 l0 x17_1).f2), .bool ((rd_T24 l0 x17_1).f3)] 24 (0, 0)) (by (with_reducible repeat (first | refine blk_drewN ?_ _ | refine blk_drew ?_ | refine blk_alloc ?_ _)); refine blk_put (cs := #[.int .i64 ((rd_T24 l0 x17_1).f0), .string ((rd_T24 l0 x17_1).f1), .bool ((rd_T24 l0 x17_1).f2), .bool false]) ?_ 3 _ rfl; (with_reducible repeat (first | refine blk_drewN ?_ _ | refine blk_drew ?_ | refine blk_alloc ?_ _)); refine blk_put (cs := #[.int .i64 ((rd_T24 l0 x17_1).f0), .string ((rd_T24 l0 x17_1).f1), .bool false, .bool false]) ?_ 2 _ rfl; (with_reducible repeat (first | refine blk_drewN ?_ _ | refine blk_drew ?_ | refine blk_alloc ?_ _)); refine blk_put (cs := #[.int .i64 ((rd_T24 l0 x17_1).f0), .string (⟨#[]⟩ : ByteArray), .bool false, .bool false]) ?_ 1 _ rfl; (with_reducible repeat (first | refine blk_drewN ?_ _ | refine blk_drew ?_ | refine blk_alloc ?_ _)); refine blk_put (cs := #[.int .i64 0, .string (⟨#[]⟩ : ByteArray), .bool false, .bool false]) ?_ 0 _ rfl; (with_reducible repeat (first | refine blk_drewN ?_ _ | refine blk_drew ?_ | refine blk_alloc ?_ _)); exact BK103.out) hb); have n1_ := Aside0.mk (below_step (by repeat (first | (with_reducible first | exact HB.out | apply below_alloc | apply pw_below_drewN | apply below_drew1 | refine below_set ?_ GE103.out) | exact HB.out)) hb); clear BK103; clear HB; have BK103 := n0_; have HB := n1_; clear n0_ n1_; (try clear hb); (try clear hb2); (try clear hk); (try clear hi)))
         go_roundg k1
         case measure => have := HK1.out; omega
         case rel => exact ⟨(x5_1 ++ (t104 ++ (⟨#[10]⟩ : ByteArray))), (wrap64 (x17_1 + 1)), (by first | rfl | (simp; done) | (simp [*]; done)), (by first | rfl | (simp; done) | (simp [*]; done)), H', ⟨by have := HK1.out; omega⟩, ⟨by repeat (first | (with_reducible first | exact HB.out | apply below_alloc | apply pw_below_drewN | apply below_drew1 | refine below_set ?_ GE103.out) | exact HB.out)⟩⟩
        ·rw [if_neg c10] at H
         exact absurd H (by simp)
       ·rw [if_neg c9] at H
        exact absurd H (by simp)
      ·rw [if_neg c7] at H
       exact absurd H (by simp)
     ·rw [if_neg c6] at H
      exact absurd H (by simp)
    ·rw [if_neg c5] at H
     have c5b0 : decide (x17_1 < (l0.length : Int)) = false := decide_eq_false c5
     clear c5
     simp only [Option.some.injEq, Prod.mk.injEq] at H
     obtain ⟨rfl, rfl⟩ := H
     go_wp2
     go_ret2
     exact ⟨by first | rfl | (simp [errW_none, errW_some] <;> rfl) | (simp [*, errW_none, errW_some] <;> rfl), by repeat (first | (with_reducible first | exact HB.out | apply below_alloc | apply pw_below_drewN | apply below_drew1) | exact HB.out)⟩
 ·rw [if_neg c3] at H
  have c3b0 : (t101 == 0) = false := beq_eq_false_iff_ne.mpr c3
  have c3b1 : (t101 != 0) = true := bne_iff_ne.mpr c3
  simp only [Option.some.injEq, Prod.mk.injEq] at H
  obtain ⟨rfl, rfl⟩ := H
  go_enter Tryd.func29, Tryd.ntmps29
  go_wp2_with (first | ((with_reducible refine gate_callee (f := 26) rfl ?_); refine goesL_ (some 11) rfl rfl Tryd.func26 (by kernel_rfl) rfl #[.slice A0 l0.length c0] rfl (by (try simp only [List.map_toArray, List.map_cons, List.map_nil]); first | done | rfl | (simp only [List.length_drop, List.length_take]; rfl)) ?_; (with_reducible refine (rules_Check.calls k _ _ l0 t101 _ ?side1 ?side2 A2.out).mono ?_); (case side1 => repeat (first | exact HR0.out | (with_reducible refine Kd.C_alloc ?_ _) | (with_reducible refine Kd.C_drewN ?_ _) | (with_reducible refine Kd.C_drew ?_))); (case side2 => exact HC0.out); rintro e w14 ⟨rfl, hb⟩; refine ⟨_, rfl, ?_⟩; have n0_ := Aside0.mk (below_step (by repeat (first | (with_reducible first | exact HB.out | apply below_alloc | apply pw_below_drewN | apply below_drew1) | exact HB.out)) hb); clear HB; have HB := n0_; clear n0_; (try clear hb); (try clear hb2); (try clear hk); (try clear hi)))
  go_ret2
  exact ⟨by first | rfl | (simp [errW_none, errW_some] <;> rfl) | (simp [*, errW_none, errW_some] <;> rfl), by repeat (first | (with_reducible first | exact HB.out | apply below_alloc | apply pw_below_drewN | apply below_drew1) | exact HB.out)⟩
end Go.Proofs.YtioehkeocddniaaDoor.PA
namespace Go.Proofs.YtioehkeocddniaaDoor.PA
open Go.RowKit Go.Proofs.YtioehkeocddniaaDoorW.PrintWords Go.Proofs.YtioehkeocddniaaDoorW.PrintLast Go.Proofs.YtioehkeocddniaaDoorW.PrintMore
attribute [local go_sem] max2_int min2_int max_two min_two max_three min_three max_four min_four
set_option linter.unusedVariables false
set_option linter.unusedSimpArgs false
def firstC : List S24 → Int
 | [] => 0
 | x :: l => if chkR x = 0 then firstC l else chkR x
theorem firstC_cons (x : S24) (l : List S24) : firstC (x :: l) = if chkR x = 0 then firstC l else chkR x := rfl
def chkL (L : List S24) : Int := if 64 < L.length then 7 else firstC L
theorem firstC_zero : ∀ L : List S24, firstC L = 0 ↔ ∀ x ∈ L, chkR x = 0
 | [] => by simp [firstC]
 | x :: l => by
  rw [firstC_cons]
  by_cases h : chkR x = 0
  ·rw [if_pos h, firstC_zero l]
   simp [h]
  ·rw [if_neg h]
   exact ⟨fun e => absurd e h, fun e => e x (List.mem_cons_self ..)⟩
theorem chkL_zero {L : List S24} (h : chkL L = 0) : L.length ≤ 64 ∧ ∀ x ∈ L, chkR x = 0 := by
 unfold chkL at h
 by_cases hl : 64 < L.length
 ·rw [if_pos hl] at h
  exact absurd h (by decide)
 ·rw [if_neg hl] at h
  exact ⟨by omega, (firstC_zero L).1 h⟩
def prnR (x : S24) : ByteArray × Int := if chkR x = 0 then (lineR x.f0 x.f1 x.f2 x.f3, 0) else (⟨#[]⟩, chkR x)
def textB : List S24 → ByteArray
 | [] => ⟨#[]⟩
 | x :: l => (lineR x.f0 x.f1 x.f2 x.f3 ++ (⟨#[10]⟩ : ByteArray)) ++ textB l
def textR (L : List S24) : ByteArray × Int := if chkL L = 0 then (textB L, 0) else (⟨#[]⟩, chkL L)
theorem ba_assoc (a b c : ByteArray) : a ++ b ++ c = a ++ (b ++ c) := by
 apply ByteArray.ext
 simp [ByteArray.data_append, Array.append_assoc]
theorem ba_nil (a : ByteArray) : a ++ (⟨#[]⟩ : ByteArray) = a := by
 apply ByteArray.ext
 simp [ByteArray.data_append]
theorem ba_nil' (a : ByteArray) : (⟨#[]⟩ : ByteArray) ++ a = a := by
 apply ByteArray.ext
 simp [ByteArray.data_append]
theorem textB_app (a b : List S24) : textB (a ++ b) = textB a ++ textB b := by
 induction a with
 | nil => rw [List.nil_append, textB, ba_nil']
 | cons x l ih =>
  rw [List.cons_append, textB, ih, textB]
  simp only [ba_assoc]
theorem textB_snoc (L : List S24) (i : Nat) (h : i < L.length) : textB (L.take (i + 1)) = textB (L.take i) ++ (lineR (L[i]).f0 (L[i]).f1 (L[i]).f2 (L[i]).f3 ++ (⟨#[10]⟩ : ByteArray)) := by
 rw [List.take_succ_eq_append_getElem h, textB_app]
 show textB (L.take i) ++ ((lineR (L[i]).f0 (L[i]).f1 (L[i]).f2 (L[i]).f3 ++ (⟨#[10]⟩ : ByteArray)) ++ (⟨#[]⟩ : ByteArray)) = _
 rw [ba_nil]
theorem lineR_size (a : Int) (p : ByteArray) (d h : Bool) : (lineR a p d h).size ≤ p.size + 4 := by
 have e : (strOfNums [actB a, 32] : ByteArray).size = 2 := rfl
 have e2 : (⟨#[47]⟩ : ByteArray).size = 1 := rfl
 cases d <;> cases h
 ·rw [lineR_false_false, ByteArray.size_append]; omega
 ·rw [lineR_false_true, ByteArray.size_append, ByteArray.size_append]; omega
 ·rw [lineR_true_false, ByteArray.size_append, ByteArray.size_append]; omega
 ·rw [lineR_true_true, ByteArray.size_append, ByteArray.size_append, ByteArray.size_append]; omega
theorem textB_size (L : List S24) (h : ∀ x ∈ L, x.f1.size ≤ 200) : (textB L).size ≤ 205 * L.length := by
 induction L with
 | nil => exact Nat.le_refl _
 | cons x l ih =>
  have h1 := ih (fun y hy => h y (List.mem_cons_of_mem _ hy))
  have h2 := h x (List.mem_cons_self ..)
  have h3 := lineR_size x.f0 x.f1 x.f2 x.f3
  have e2 : (⟨#[10]⟩ : ByteArray).size = 1 := rfl
  rw [textB, ByteArray.size_append, ByteArray.size_append, List.length_cons]
  omega
theorem checkL_l (L : List S24) (hL : ∀ x ∈ L, x.f1.size < 1000000) (hn : L.length < 1000000) : ∀ (m i k : Nat), L.length - i = m → i ≤ L.length → m + 1 ≤ k → rules_Check.l0 k L (L.length : Int) (i : Int) = some (firstC (L.drop i)) := by
 intro m
 induction m with
 | zero =>
  intro i k hm hi hk
  obtain ⟨k, rfl⟩ : ∃ j, k = j + 1 := ⟨k - 1, by omega⟩
  obtain rfl : i = L.length := by omega
  rw [rules_Check.l0, if_neg (by omega), List.drop_length]
  rfl
 | succ m ih =>
  intro i k hm hi hk
  obtain ⟨k, rfl⟩ : ∃ j, k = j + 1 := ⟨k - 1, by omega⟩
  have hlt : i < L.length := by omega
  have e1 : wrap64 ((i : Int) + 1) = ((i + 1 : Nat) : Int) := by rw [wr64 _ (by omega) (by omega)]; rfl
  have hx : (L[i]).f1.size < 1000000 := hL _ (List.getElem_mem hlt)
  rw [rules_Check.l0, if_pos (by omega), if_pos (by omega), if_pos (by omega), rd24_get L i hlt, e1, check_f _ _ _ _ (by omega), Option.bind_some, List.drop_eq_getElem_cons hlt, firstC_cons]
  by_cases h : chkR (L[i]) = 0
  ·rw [if_pos (show chkI (L[i]).f0 (L[i]).f1 = 0 from h), if_pos h]
   exact ih (i + 1) k (by omega) (by omega) (by omega)
  ·rw [if_neg (show ¬ chkI (L[i]).f0 (L[i]).f1 = 0 from h), if_neg h]
   rfl
theorem checkL_f (L : List S24) (hL : ∀ x ∈ L, x.f1.size < 1000000) (hn : L.length < 1000000) (k : Nat) (hk : 2000010 ≤ k) : rules_Check.f k L = some (chkL L) := by
 unfold rules_Check.f chkL
 by_cases h : (L.length : Int) > 64
 ·rw [if_pos h, if_pos (by omega)]
 ·rw [if_neg h, if_neg (by omega)]
  exact checkL_l L hL hn L.length 0 k (by omega) (by omega) (by omega)
theorem print_f (x : S24) (hx : x.f1.size < 1000000) : rules_Print.f x.f0 x.f1 x.f2 x.f3 = some (prnR x) := by
 unfold rules_Print.f prnR
 rw [if_pos hx, check_f _ _ _ _ (by omega), Option.bind_some]
 by_cases h : chkR x = 0
 ·rw [if_pos h, if_pos (show chkI x.f0 x.f1 = 0 from h)]
 ·rw [if_neg h, if_neg (show ¬ chkI x.f0 x.f1 = 0 from h)]
  rfl
theorem text_l (L : List S24) (hL : ∀ x ∈ L, x.f1.size ≤ 200) (hn : L.length ≤ 80) (hz : ∀ x ∈ L, chkR x = 0) : ∀ (m i k : Nat), L.length - i = m → i ≤ L.length → m + 1 ≤ k → rules_Text.l0 k (textB (L.take i)) L (L.length : Int) (i : Int) = some (textB L, 0) := by
 intro m
 induction m with
 | zero =>
  intro i k hm hi hk
  obtain ⟨k, rfl⟩ : ∃ j, k = j + 1 := ⟨k - 1, by omega⟩
  obtain rfl : i = L.length := by omega
  rw [rules_Text.l0, if_neg (by omega), List.take_length]
 | succ m ih =>
  intro i k hm hi hk
  obtain ⟨k, rfl⟩ : ∃ j, k = j + 1 := ⟨k - 1, by omega⟩
  have hlt : i < L.length := by omega
  have e1 : wrap64 ((i : Int) + 1) = ((i + 1 : Nat) : Int) := by rw [wr64 _ (by omega) (by omega)]; rfl
  have hx : (L[i]).f1.size ≤ 200 := hL _ (List.getElem_mem hlt)
  have hs := textB_size (L.take i) (fun x h => hL x (List.mem_of_mem_take h))
  have hl := lineR_size (L[i]).f0 (L[i]).f1 (L[i]).f2 (L[i]).f3
  have ht : (L.take i).length ≤ 80 := by rw [List.length_take]; omega
  have hone : (⟨#[10]⟩ : ByteArray).size = 1 := rfl
  rw [rules_Text.l0, if_pos (by omega), if_pos (by omega), if_pos (by omega), rd24_get L i hlt, e1, print_f (L[i]) (by omega), Option.bind_some]
  have ep : (prnR (L[i])).1 = lineR (L[i]).f0 (L[i]).f1 (L[i]).f2 (L[i]).f3 := by
   unfold prnR
   rw [if_pos (hz _ (List.getElem_mem hlt))]
  rw [ep, if_pos (by omega), if_pos (by rw [ByteArray.size_append, hone]; omega), ← textB_snoc L i hlt]
  exact ih (i + 1) k (by omega) (by omega) (by omega)
theorem text_f (L : List S24) (hL : ∀ x ∈ L, x.f1.size ≤ 200) (hn : L.length ≤ 80) (k : Nat) (hk : 2000010 ≤ k) : rules_Text.f k L = some (textR L) := by
 unfold rules_Text.f textR
 rw [checkL_f L (fun x hx => by have := hL x hx; omega) (by omega) k hk, Option.bind_some]
 by_cases h : chkL L = 0
 ·rw [if_pos h, if_pos h]
  exact text_l L hL hn (chkL_zero h).2 L.length 0 k (by omega) (by omega) (by omega)
 ·rw [if_neg h, if_neg h]
theorem rcheckL_l (L : List S24) (hL : ∀ x ∈ L, x.f1.size < 1000000) (hn : L.length < 1000000) : ∀ (m i k : Nat), L.length - i = m → i ≤ L.length → m + 1000005 ≤ k → remoraref15_Check.l0 k L (L.length : Int) (i : Int) = some (firstC (L.drop i)) := by
 intro m
 induction m with
 | zero =>
  intro i k hm hi hk
  obtain ⟨k, rfl⟩ : ∃ j, k = j + 1 := ⟨k - 1, by omega⟩
  obtain rfl : i = L.length := by omega
  rw [remoraref15_Check.l0, if_neg (by omega), List.drop_length]
  rfl
 | succ m ih =>
  intro i k hm hi hk
  obtain ⟨k, rfl⟩ : ∃ j, k = j + 1 := ⟨k - 1, by omega⟩
  have hlt : i < L.length := by omega
  have e1 : wrap64 ((i : Int) + 1) = ((i + 1 : Nat) : Int) := by rw [wr64 _ (by omega) (by omega)]; rfl
  have hx : (L[i]).f1.size < 1000000 := hL _ (List.getElem_mem hlt)
  rw [remoraref15_Check.l0, if_pos (by omega), if_pos (by omega), if_pos (by omega), rd24_get L i hlt, e1, one_f _ _ _ _ hx k (by omega), Option.bind_some, List.drop_eq_getElem_cons hlt, firstC_cons]
  by_cases h : chkR (L[i]) = 0
  ·rw [if_pos (show chkI (L[i]).f0 (L[i]).f1 = 0 from h), if_pos h]
   exact ih (i + 1) k (by omega) (by omega) (by omega)
  ·rw [if_neg (show ¬ chkI (L[i]).f0 (L[i]).f1 = 0 from h), if_neg h]
   rfl
theorem rcheckL_f (L : List S24) (hL : ∀ x ∈ L, x.f1.size < 1000000) (hn : L.length < 1000000) (k : Nat) (hk : 2000010 ≤ k) : remoraref15_Check.f k L = some (chkL L) := by
 unfold remoraref15_Check.f chkL
 by_cases h : (L.length : Int) > 64
 ·rw [if_pos h, if_pos (by omega)]
 ·rw [if_neg h, if_neg (by omega)]
  exact rcheckL_l L hL hn L.length 0 k (by omega) (by omega) (by omega)
theorem rprint_f (x : S24) (hx : x.f1.size < 1000000) : remoraref15_Print.f x.f0 x.f1 x.f2 x.f3 = some (prnR x) := by
 unfold remoraref15_Print.f prnR
 rw [if_pos hx, one_f _ _ _ _ hx 1000010 (by omega), Option.bind_some]
 by_cases h : chkR x = 0
 ·rw [if_pos h, if_pos (show chkI x.f0 x.f1 = 0 from h)]
 ·rw [if_neg h, if_neg (show ¬ chkI x.f0 x.f1 = 0 from h)]
  rfl
theorem rtext_l (L : List S24) (hL : ∀ x ∈ L, x.f1.size ≤ 200) (hn : L.length ≤ 80) (hz : ∀ x ∈ L, chkR x = 0) : ∀ (m i k : Nat), L.length - i = m → i ≤ L.length → m + 1 ≤ k → remoraref15_Text.l0 k (textB (L.take i)) L (L.length : Int) (i : Int) = some (textB L, 0) := by
 intro m
 induction m with
 | zero =>
  intro i k hm hi hk
  obtain ⟨k, rfl⟩ : ∃ j, k = j + 1 := ⟨k - 1, by omega⟩
  obtain rfl : i = L.length := by omega
  rw [remoraref15_Text.l0, if_neg (by omega), List.take_length]
 | succ m ih =>
  intro i k hm hi hk
  obtain ⟨k, rfl⟩ : ∃ j, k = j + 1 := ⟨k - 1, by omega⟩
  have hlt : i < L.length := by omega
  have e1 : wrap64 ((i : Int) + 1) = ((i + 1 : Nat) : Int) := by rw [wr64 _ (by omega) (by omega)]; rfl
  have hx : (L[i]).f1.size ≤ 200 := hL _ (List.getElem_mem hlt)
  have hs := textB_size (L.take i) (fun x h => hL x (List.mem_of_mem_take h))
  have hl := lineR_size (L[i]).f0 (L[i]).f1 (L[i]).f2 (L[i]).f3
  have ht : (L.take i).length ≤ 80 := by rw [List.length_take]; omega
  have hone : (⟨#[10]⟩ : ByteArray).size = 1 := rfl
  rw [remoraref15_Text.l0, if_pos (by omega), if_pos (by omega), if_pos (by omega), rd24_get L i hlt, e1, rprint_f (L[i]) (by omega), Option.bind_some]
  have ep : (prnR (L[i])).1 = lineR (L[i]).f0 (L[i]).f1 (L[i]).f2 (L[i]).f3 := by
   unfold prnR
   rw [if_pos (hz _ (List.getElem_mem hlt))]
  rw [ep, if_pos (by omega), if_pos (by rw [ByteArray.size_append, hone]; omega), ← textB_snoc L i hlt]
  exact ih (i + 1) k (by omega) (by omega) (by omega)
theorem rtext_f (L : List S24) (hL : ∀ x ∈ L, x.f1.size ≤ 200) (hn : L.length ≤ 80) (k : Nat) (hk : 2000010 ≤ k) : remoraref15_Text.f k L = some (textR L) := by
 unfold remoraref15_Text.f textR
 rw [rcheckL_f L (fun x hx => by have := hL x hx; omega) (by omega) k hk, Option.bind_some]
 by_cases h : chkL L = 0
 ·rw [if_pos h, if_pos h]
  exact rtext_l L hL hn (chkL_zero h).2 L.length 0 k (by omega) (by omega) (by omega)
 ·rw [if_neg h, if_neg h]
end Go.Proofs.YtioehkeocddniaaDoor.PA
