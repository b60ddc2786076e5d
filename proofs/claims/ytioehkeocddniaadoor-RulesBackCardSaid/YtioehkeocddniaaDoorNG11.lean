/- The reference's Parse by its contract. -/
import Derived.Great.BuildSlice
import Derived.Laws.CopyOwn
import Derived.Laws.CopyRow
import Derived.Test.YtioehkeocddniaaDoorNG2
import Derived.Test.YtioehkeocddniaaDoorNG1
namespace Go.Proofs.YtioehkeocddniaaDoor.PA
open Go.RowKit Go.Proofs.YtioehkeocddniaaDoorW.PrintWords Go.Proofs.YtioehkeocddniaaDoorW.PrintLast Go.Proofs.YtioehkeocddniaaDoorW.PrintMore
attribute [local go_sem] max2_int min2_int max_two min_two max_three min_three max_four min_four
set_option linter.unusedVariables false
set_option linter.unusedSimpArgs false
theorem tl_ne (t : ByteArray) (h : 0 < t.size) : (t.toList == []) = false := by
 rw [beq_eq_false_iff_ne]
 intro e
 have := congrArg List.length e
 rw [ByteArray.toList_eq, Array.length_toList] at this
 have h2 : t.data.size = t.size := rfl
 rw [h2] at this
 exact absurd this (Nat.ne_of_gt h)
def cutP (t : ByteArray) : ByteArray × Bool := if 0 < t.size ∧ bt t 0 = 47 then (t.extract 1 t.size, true) else (t, false)
def cutS (t : ByteArray) : ByteArray × Bool := if 0 < t.size ∧ bt t ((t.size - 1 : Nat) : Int) = 47 then (t.extract 0 (t.size - 1), true) else (t, false)
def signA (c : Int) : Int := if c = 43 then 1 else if c = 45 then 2 else if c = 80 then 3 else if c = 82 then 4 else 0
def remoraref15_Parse.f (a0 : ByteArray) : Option (Int × ByteArray × Bool × Bool × Int) :=
 if a0.size < 1000000 then
  if a0.size < 2 then some (nilR 5) else
  if bt a0 1 ≠ 32 then some (nilR 5) else
  if signA (bt a0 0) = 0 then some (nilR 5) else
  (remoraref15_one.f 1000010 (signA (bt a0 0)) (cutS (cutP (a0.extract 2 a0.size)).1).1 (cutS (cutP (a0.extract 2 a0.size)).1).2 (cutP (a0.extract 2 a0.size)).2).bind fun e =>
   if e = 0 then some (signA (bt a0 0), (cutS (cutP (a0.extract 2 a0.size)).1).1, (cutS (cutP (a0.extract 2 a0.size)).1).2, (cutP (a0.extract 2 a0.size)).2, 0) else some (nilR e)
 else none
theorem cutP_empty {t : ByteArray} (h : t.size = 0) : cutP t = (t, false) := if_neg (fun x => by omega)
theorem cutS_empty {t : ByteArray} (h : t.size = 0) : cutS t = (t, false) := if_neg (fun x => by omega)
theorem cutP_no {t : ByteArray} (h : ¬ bt t 0 = 47) : cutP t = (t, false) := if_neg (fun x => h x.2)
theorem cutS_no {t : ByteArray} (h : ¬ bt t ((t.size - 1 : Nat) : Int) = 47) : cutS t = (t, false) := if_neg (fun x => h x.2)
theorem cutP_yes {t : ByteArray} (h0 : 0 < t.size) (h : bt t 0 = 47) : cutP t = (t.extract 1 t.size, true) := if_pos ⟨h0, h⟩
theorem cutS_yes {t : ByteArray} (h0 : 0 < t.size) (h : bt t ((t.size - 1 : Nat) : Int) = 47) : cutS t = (t.extract 0 (t.size - 1), true) := if_pos ⟨h0, h⟩
theorem wr_pred (t : ByteArray) (hs : t.size < 1000000) (h : 0 < t.size) : wrap64 ((t.size : Int) - 1) = ((t.size - 1 : Nat) : Int) := by
 rw [wr64 _ (by omega) (by omega)]
 omega
theorem bt_last (t : ByteArray) (h : t.size - 1 < t.size) : ((t[t.size - 1]'h).toNat : Int) = bt t ((t.size - 1 : Nat) : Int) := by
 have := bt_at t ((t.size - 1 : Nat) : Int) (by simpa using h)
 simpa using this
theorem ex_small (t : ByteArray) (i j : Nat) (h : t.size < 1000000) : (t.extract i j).size < 1000000 := by
 rw [ByteArray.size_extract]
 omega
set_option maxHeartbeats 8000000 in
set_option maxRecDepth 100000 in
theorem rparse_1_empty_empty (a0 : ByteArray) (w : World) (hs : a0.size < 1000000) (hb0 : 0 < a0.size) (hb1 : 1 < a0.size) (hc0 : ((a0[0]'hb0).toNat : Int) = 43) (hc1 : ((a0[1]'hb1).toNat : Int) = 32)
  (t : ByteArray) (ht : a0.extract 2 a0.size = t) (hte : t.size = 0) (er : Int)
  (hck : ∀ w, Calls Tryd.prog 40 #[.agg (rR 1 t false false)] w fun e w' => e = .returned (.int .i64 er) ∧ Below w.heap.size w w') :
  Calls Tryd.prog 12 #[.string a0] w fun e w' => e = .returned (if er = 0 then .tuple #[.agg (rR 1 t false false), .int .i64 0] else .tuple #[.agg zR, .int .i64 er]) ∧ Below w.heap.size w w' := by
 have hu1 := Tryd.underlying24
 have HD := Aside0.mk (B1.start 24 w zR)
 have l1 : ((a0.size : Int) < 2) = False := eq_false (by omega)
 have l2 : (a0.size < 2) = False := eq_false (by omega)
 have l3 : ((0 : Int) < (a0.size : Int)) = True := eq_true (by omega)
 have l4 : (0 < a0.size) = True := eq_true hb0
 have l5 : ((1 : Int) < (a0.size : Int)) = True := eq_true (by omega)
 have l6 : (1 < a0.size) = True := eq_true hb1
 have l7 : ((2 : Int) ≤ (a0.size : Int)) = True := eq_true (by omega)
 have l8 : (2 ≤ a0.size) = True := eq_true hb1
 have f1 : t.toList = [] := by rw [ByteArray.toList_eq]; exact List.eq_nil_of_length_eq_zero (by rw [Array.length_toList]; exact hte)
 have g1 : (t.size : Int) = 0 := by omega
 by_cases hz : er = 0
 ·subst hz
  rw [if_pos rfl]
  go_enter Tryd.func12, Tryd.ntmps12
  go_wp2_with (first | ((with_reducible refine gate_store (t := 24) (p := 4) rfl ?_); refine store_event rfl rfl rfl (store_runR _ _ 24 zR (rR 0 t false false) (RB.of0 w).box (.tmp 4) (.tmp 18) rfl rfl rfl (by kernel_rfl) rfl (rR_one _ _ _ _)) ?_; intro w8 hw8; have HP := Aside0.mk (show RB w w8 (w.heap.size + 1) (rR 0 t false false) from by rw [hw8]; exact RB.row_ (RB.of0 w) (rR 0 t false false)); clear hw8 HD; have hk1 := blk_cell HP.out.box 1; change _ = some (Value.string t) at hk1) | ((with_reducible refine gate_store (t := 3) (p := 24) rfl ?_); refine store_event rfl rfl rfl (store_cellR _ HP.out.box 0 3 (.int .i64 1) (.tmp 24) (.const (.int .i64 1)) rfl rfl rfl (by kernel_rfl) (show 0 < 4 by decide) rfl) ?_; intro w8 hw8; have n0_ := Aside0.mk (show RB w w8 (w.heap.size + 1) (rR 1 t false false) from by rw [hw8]; exact RB.put HP.out 0 _ _ rfl); clear hw8 HP hk1; have HP := n0_; clear n0_; have hk1 := blk_cell HP.out.box 1; change _ = some (Value.string t) at hk1) | ((with_reducible refine gate_dst (N := 68) rfl ?_); refine wpList_load_row rfl 24 (.tmp 4) rfl _ rfl 24 (rR 1 t false false) (0, 0) _ HP.out.box hu1 rfl (by kernel_rfl) ?_) | (go_at_call 40; (with_reducible refine (hck _).mono ?_); rintro e w4 ⟨rfl, hb⟩; clear hk1; have n0_ := Aside0.mk (RB.step HP.out hb); clear HP hb; have HP := n0_; clear n0_) | ((with_reducible refine gate_dst (N := 74) rfl ?_); refine wpList_load_row rfl 24 (.tmp 4) rfl _ rfl 24 (rR 1 t false false) (0, 0) _ HP.out.box hu1 rfl (by kernel_rfl) ?_) | ((with_reducible refine gate_store (t := 24) (p := 2) rfl ?_); refine wpList_store_rowTo rfl 24 (.tmp 2) (.tmp 74) rfl rfl w.heap.size (rR 1 t false false) rfl rfl 24 zR HP.out.res (by kernel_rfl) rfl (rR_one _ _ _ _) ?_))
  refine bodyPost_ret (results_ct rfl _ _ w.heap.size 24 (rR 1 t false false) (0, 0) _ rfl (setRow_heap _ _ zR _ 24 (0, 0) HP.out.res) hu1 rfl (by kernel_rfl)) rfl ?_
  exact ⟨rfl, below_setRow HP.out.below (Nat.le_refl _) _⟩
 ·rw [if_neg hz]
  have q1 : (er != 0) = true := bne_iff_ne.2 hz
  go_enter Tryd.func12, Tryd.ntmps12
  go_wp2_with (first | ((with_reducible refine gate_store (t := 24) (p := 4) rfl ?_); refine store_event rfl rfl rfl (store_runR _ _ 24 zR (rR 0 t false false) (RB.of0 w).box (.tmp 4) (.tmp 18) rfl rfl rfl (by kernel_rfl) rfl (rR_one _ _ _ _)) ?_; intro w8 hw8; have HP := Aside0.mk (show RB w w8 (w.heap.size + 1) (rR 0 t false false) from by rw [hw8]; exact RB.row_ (RB.of0 w) (rR 0 t false false)); clear hw8 HD; have hk1 := blk_cell HP.out.box 1; change _ = some (Value.string t) at hk1) | ((with_reducible refine gate_store (t := 3) (p := 24) rfl ?_); refine store_event rfl rfl rfl (store_cellR _ HP.out.box 0 3 (.int .i64 1) (.tmp 24) (.const (.int .i64 1)) rfl rfl rfl (by kernel_rfl) (show 0 < 4 by decide) rfl) ?_; intro w8 hw8; have n0_ := Aside0.mk (show RB w w8 (w.heap.size + 1) (rR 1 t false false) from by rw [hw8]; exact RB.put HP.out 0 _ _ rfl); clear hw8 HP hk1; have HP := n0_; clear n0_; have hk1 := blk_cell HP.out.box 1; change _ = some (Value.string t) at hk1) | ((with_reducible refine gate_dst (N := 68) rfl ?_); refine wpList_load_row rfl 24 (.tmp 4) rfl _ rfl 24 (rR 1 t false false) (0, 0) _ HP.out.box hu1 rfl (by kernel_rfl) ?_) | (go_at_call 40; (with_reducible refine (hck _).mono ?_); rintro e w4 ⟨rfl, hb⟩; clear hk1; have n0_ := Aside0.mk (RB.step HP.out hb); clear HP hb; have HP := n0_; clear n0_) | ((with_reducible refine gate_store (t := 24) (p := 2) rfl ?_); refine wpList_store_rowTo rfl 24 (.tmp 2) (.tmp 72) rfl rfl w.heap.size zR rfl rfl 24 zR HP.out.res (by kernel_rfl) rfl (rR_one _ _ _ _) ?_))
  refine bodyPost_ret (results_ct rfl _ _ w.heap.size 24 zR (0, 0) _ rfl (setRow_heap _ _ zR _ 24 (0, 0) HP.out.res) hu1 rfl (by kernel_rfl)) rfl ?_
  exact ⟨rfl, below_setRow HP.out.below (Nat.le_refl _) _⟩
set_option maxHeartbeats 8000000 in
set_option maxRecDepth 100000 in
theorem rparse_1_no_no (a0 : ByteArray) (w : World) (hs : a0.size < 1000000) (hb0 : 0 < a0.size) (hb1 : 1 < a0.size) (hc0 : ((a0[0]'hb0).toNat : Int) = 43) (hc1 : ((a0[1]'hb1).toNat : Int) = 32)
  (t : ByteArray) (ht : a0.extract 2 a0.size = t) (hte : 0 < t.size) (ht0 : ¬ ((t[0]'hte).toNat : Int) = 47) (m : Nat) (hm : wrap64 ((t.size : Int) - 1) = (m : Int)) (hml : m < t.size) (hpl : ¬ ((t[m]'hml).toNat : Int) = 47) (er : Int)
  (hck : ∀ w, Calls Tryd.prog 40 #[.agg (rR 1 t false false)] w fun e w' => e = .returned (.int .i64 er) ∧ Below w.heap.size w w') :
  Calls Tryd.prog 12 #[.string a0] w fun e w' => e = .returned (if er = 0 then .tuple #[.agg (rR 1 t false false), .int .i64 0] else .tuple #[.agg zR, .int .i64 er]) ∧ Below w.heap.size w w' := by
 have hu1 := Tryd.underlying24
 have HD := Aside0.mk (B1.start 24 w zR)
 have l1 : ((a0.size : Int) < 2) = False := eq_false (by omega)
 have l2 : (a0.size < 2) = False := eq_false (by omega)
 have l3 : ((0 : Int) < (a0.size : Int)) = True := eq_true (by omega)
 have l4 : (0 < a0.size) = True := eq_true hb0
 have l5 : ((1 : Int) < (a0.size : Int)) = True := eq_true (by omega)
 have l6 : (1 < a0.size) = True := eq_true hb1
 have l7 : ((2 : Int) ≤ (a0.size : Int)) = True := eq_true (by omega)
 have l8 : (2 ≤ a0.size) = True := eq_true hb1
 have f1 : (t.toList == []) = false := tl_ne t hte
 have f2 : (0 < t.size) = True := eq_true hte
 have f3 : ((0 : Int) < (t.size : Int)) = True := eq_true (by omega)
 have f4 : (((t[0]'hte).toNat : Int) == 47) = false := beq_eq_false_iff_ne.2 ht0
 have g2 : (m < t.size) = True := eq_true hml
 have g3 : ((m : Int) < (t.size : Int)) = True := eq_true (by omega)
 have g5 : (m ≤ t.size) = True := eq_true (Nat.le_of_lt hml)
 have g6 : ((m : Int) ≤ (t.size : Int)) = True := eq_true (by omega)
 have g4 : (((t[m]'hml).toNat : Int) == 47) = false := beq_eq_false_iff_ne.2 hpl
 have g0 : (0 < t.size) = True := eq_true hte
 have g1 : ((0 : Int) < (t.size : Int)) = True := eq_true (by omega)
 by_cases hz : er = 0
 ·subst hz
  rw [if_pos rfl]
  go_enter Tryd.func12, Tryd.ntmps12
  go_wp2_with (first | ((with_reducible refine gate_store (t := 24) (p := 4) rfl ?_); refine store_event rfl rfl rfl (store_runR _ _ 24 zR (rR 0 t false false) (RB.of0 w).box (.tmp 4) (.tmp 18) rfl rfl rfl (by kernel_rfl) rfl (rR_one _ _ _ _)) ?_; intro w8 hw8; have HP := Aside0.mk (show RB w w8 (w.heap.size + 1) (rR 0 t false false) from by rw [hw8]; exact RB.row_ (RB.of0 w) (rR 0 t false false)); clear hw8 HD; have hk1 := blk_cell HP.out.box 1; change _ = some (Value.string t) at hk1) | ((with_reducible refine gate_store (t := 3) (p := 24) rfl ?_); refine store_event rfl rfl rfl (store_cellR _ HP.out.box 0 3 (.int .i64 1) (.tmp 24) (.const (.int .i64 1)) rfl rfl rfl (by kernel_rfl) (show 0 < 4 by decide) rfl) ?_; intro w8 hw8; have n0_ := Aside0.mk (show RB w w8 (w.heap.size + 1) (rR 1 t false false) from by rw [hw8]; exact RB.put HP.out 0 _ _ rfl); clear hw8 HP hk1; have HP := n0_; clear n0_; have hk1 := blk_cell HP.out.box 1; change _ = some (Value.string t) at hk1) | ((with_reducible refine gate_dst (N := 68) rfl ?_); refine wpList_load_row rfl 24 (.tmp 4) rfl _ rfl 24 (rR 1 t false false) (0, 0) _ HP.out.box hu1 rfl (by kernel_rfl) ?_) | (go_at_call 40; (with_reducible refine (hck _).mono ?_); rintro e w4 ⟨rfl, hb⟩; clear hk1; have n0_ := Aside0.mk (RB.step HP.out hb); clear HP hb; have HP := n0_; clear n0_) | ((with_reducible refine gate_dst (N := 74) rfl ?_); refine wpList_load_row rfl 24 (.tmp 4) rfl _ rfl 24 (rR 1 t false false) (0, 0) _ HP.out.box hu1 rfl (by kernel_rfl) ?_) | ((with_reducible refine gate_store (t := 24) (p := 2) rfl ?_); refine wpList_store_rowTo rfl 24 (.tmp 2) (.tmp 74) rfl rfl w.heap.size (rR 1 t false false) rfl rfl 24 zR HP.out.res (by kernel_rfl) rfl (rR_one _ _ _ _) ?_))
  refine bodyPost_ret (results_ct rfl _ _ w.heap.size 24 (rR 1 t false false) (0, 0) _ rfl (setRow_heap _ _ zR _ 24 (0, 0) HP.out.res) hu1 rfl (by kernel_rfl)) rfl ?_
  exact ⟨rfl, below_setRow HP.out.below (Nat.le_refl _) _⟩
 ·rw [if_neg hz]
  have q1 : (er != 0) = true := bne_iff_ne.2 hz
  go_enter Tryd.func12, Tryd.ntmps12
  go_wp2_with (first | ((with_reducible refine gate_store (t := 24) (p := 4) rfl ?_); refine store_event rfl rfl rfl (store_runR _ _ 24 zR (rR 0 t false false) (RB.of0 w).box (.tmp 4) (.tmp 18) rfl rfl rfl (by kernel_rfl) rfl (rR_one _ _ _ _)) ?_; intro w8 hw8; have HP := Aside0.mk (show RB w w8 (w.heap.size + 1) (rR 0 t false false) from by rw [hw8]; exact RB.row_ (RB.of0 w) (rR 0 t false false)); clear hw8 HD; have hk1 := blk_cell HP.out.box 1; change _ = some (Value.string t) at hk1) | ((with_reducible refine gate_store (t := 3) (p := 24) rfl ?_); refine store_event rfl rfl rfl (store_cellR _ HP.out.box 0 3 (.int .i64 1) (.tmp 24) (.const (.int .i64 1)) rfl rfl rfl (by kernel_rfl) (show 0 < 4 by decide) rfl) ?_; intro w8 hw8; have n0_ := Aside0.mk (show RB w w8 (w.heap.size + 1) (rR 1 t false false) from by rw [hw8]; exact RB.put HP.out 0 _ _ rfl); clear hw8 HP hk1; have HP := n0_; clear n0_; have hk1 := blk_cell HP.out.box 1; change _ = some (Value.string t) at hk1) | ((with_reducible refine gate_dst (N := 68) rfl ?_); refine wpList_load_row rfl 24 (.tmp 4) rfl _ rfl 24 (rR 1 t false false) (0, 0) _ HP.out.box hu1 rfl (by kernel_rfl) ?_) | (go_at_call 40; (with_reducible refine (hck _).mono ?_); rintro e w4 ⟨rfl, hb⟩; clear hk1; have n0_ := Aside0.mk (RB.step HP.out hb); clear HP hb; have HP := n0_; clear n0_) | ((with_reducible refine gate_store (t := 24) (p := 2) rfl ?_); refine wpList_store_rowTo rfl 24 (.tmp 2) (.tmp 72) rfl rfl w.heap.size zR rfl rfl 24 zR HP.out.res (by kernel_rfl) rfl (rR_one _ _ _ _) ?_))
  refine bodyPost_ret (results_ct rfl _ _ w.heap.size 24 zR (0, 0) _ rfl (setRow_heap _ _ zR _ 24 (0, 0) HP.out.res) hu1 rfl (by kernel_rfl)) rfl ?_
  exact ⟨rfl, below_setRow HP.out.below (Nat.le_refl _) _⟩
set_option maxHeartbeats 8000000 in
set_option maxRecDepth 100000 in
theorem rparse_1_no_yes (a0 : ByteArray) (w : World) (hs : a0.size < 1000000) (hb0 : 0 < a0.size) (hb1 : 1 < a0.size) (hc0 : ((a0[0]'hb0).toNat : Int) = 43) (hc1 : ((a0[1]'hb1).toNat : Int) = 32)
  (t : ByteArray) (ht : a0.extract 2 a0.size = t) (hte : 0 < t.size) (ht0 : ¬ ((t[0]'hte).toNat : Int) = 47) (m : Nat) (hm : wrap64 ((t.size : Int) - 1) = (m : Int)) (hml : m < t.size) (hpl : ((t[m]'hml).toNat : Int) = 47) (p2 : ByteArray) (hp2 : t.extract 0 m = p2) (er : Int)
  (hck : ∀ w, Calls Tryd.prog 40 #[.agg (rR 1 p2 true false)] w fun e w' => e = .returned (.int .i64 er) ∧ Below w.heap.size w w') :
  Calls Tryd.prog 12 #[.string a0] w fun e w' => e = .returned (if er = 0 then .tuple #[.agg (rR 1 p2 true false), .int .i64 0] else .tuple #[.agg zR, .int .i64 er]) ∧ Below w.heap.size w w' := by
 have hu1 := Tryd.underlying24
 have HD := Aside0.mk (B1.start 24 w zR)
 have l1 : ((a0.size : Int) < 2) = False := eq_false (by omega)
 have l2 : (a0.size < 2) = False := eq_false (by omega)
 have l3 : ((0 : Int) < (a0.size : Int)) = True := eq_true (by omega)
 have l4 : (0 < a0.size) = True := eq_true hb0
 have l5 : ((1 : Int) < (a0.size : Int)) = True := eq_true (by omega)
 have l6 : (1 < a0.size) = True := eq_true hb1
 have l7 : ((2 : Int) ≤ (a0.size : Int)) = True := eq_true (by omega)
 have l8 : (2 ≤ a0.size) = True := eq_true hb1
 have f1 : (t.toList == []) = false := tl_ne t hte
 have f2 : (0 < t.size) = True := eq_true hte
 have f3 : ((0 : Int) < (t.size : Int)) = True := eq_true (by omega)
 have f4 : (((t[0]'hte).toNat : Int) == 47) = false := beq_eq_false_iff_ne.2 ht0
 have g2 : (m < t.size) = True := eq_true hml
 have g3 : ((m : Int) < (t.size : Int)) = True := eq_true (by omega)
 have g5 : (m ≤ t.size) = True := eq_true (Nat.le_of_lt hml)
 have g6 : ((m : Int) ≤ (t.size : Int)) = True := eq_true (by omega)
 have g0 : (0 < t.size) = True := eq_true hte
 have g1 : ((0 : Int) < (t.size : Int)) = True := eq_true (by omega)
 by_cases hz : er = 0
 ·subst hz
  rw [if_pos rfl]
  go_enter Tryd.func12, Tryd.ntmps12
  go_wp2_with (first | ((with_reducible refine gate_store (t := 24) (p := 4) rfl ?_); refine store_event rfl rfl rfl (store_runR _ _ 24 zR (rR 0 t false false) (RB.of0 w).box (.tmp 4) (.tmp 18) rfl rfl rfl (by kernel_rfl) rfl (rR_one _ _ _ _)) ?_; intro w8 hw8; have HP := Aside0.mk (show RB w w8 (w.heap.size + 1) (rR 0 t false false) from by rw [hw8]; exact RB.row_ (RB.of0 w) (rR 0 t false false)); clear hw8 HD; have hk1 := blk_cell HP.out.box 1; change _ = some (Value.string t) at hk1) | ((with_reducible refine gate_store (t := 3) (p := 24) rfl ?_); refine store_event rfl rfl rfl (store_cellR _ HP.out.box 0 3 (.int .i64 1) (.tmp 24) (.const (.int .i64 1)) rfl rfl rfl (by kernel_rfl) (show 0 < 4 by decide) rfl) ?_; intro w8 hw8; have n0_ := Aside0.mk (show RB w w8 (w.heap.size + 1) (rR 1 t false false) from by rw [hw8]; exact RB.put HP.out 0 _ _ rfl); clear hw8 HP hk1; have HP := n0_; clear n0_; have hk1 := blk_cell HP.out.box 1; change _ = some (Value.string t) at hk1) | ((with_reducible refine gate_store (t := 4) (p := 61) rfl ?_); refine store_event rfl rfl rfl (store_cellR _ HP.out.box 2 4 (.bool true) (.tmp 61) (.const (.bool true)) rfl rfl rfl (by kernel_rfl) (show 2 < 4 by decide) rfl) ?_; intro w8 hw8; have n0_ := Aside0.mk (show RB w w8 (w.heap.size + 1) (rR 1 t true false) from by rw [hw8]; exact RB.put HP.out 2 _ _ rfl); clear hw8 HP hk1; have HP := n0_; clear n0_; have hk1 := blk_cell HP.out.box 1; change _ = some (Value.string t) at hk1) | ((with_reducible refine gate_store (t := 9) (p := 67) rfl ?_); refine store_event rfl rfl rfl (store_cellR _ HP.out.box 1 9 (.string p2) (.tmp 67) (.tmp 66) rfl rfl rfl (by kernel_rfl) (show 1 < 4 by decide) rfl) ?_; intro w8 hw8; have n0_ := Aside0.mk (show RB w w8 (w.heap.size + 1) (rR 1 p2 true false) from by rw [hw8]; exact RB.put HP.out 1 _ _ rfl); clear hw8 HP hk1; have HP := n0_; clear n0_; have hk1 := blk_cell HP.out.box 1; change _ = some (Value.string p2) at hk1) | ((with_reducible refine gate_dst (N := 68) rfl ?_); refine wpList_load_row rfl 24 (.tmp 4) rfl _ rfl 24 (rR 1 p2 true false) (0, 0) _ HP.out.box hu1 rfl (by kernel_rfl) ?_) | (go_at_call 40; (with_reducible refine (hck _).mono ?_); rintro e w4 ⟨rfl, hb⟩; clear hk1; have n0_ := Aside0.mk (RB.step HP.out hb); clear HP hb; have HP := n0_; clear n0_) | ((with_reducible refine gate_dst (N := 74) rfl ?_); refine wpList_load_row rfl 24 (.tmp 4) rfl _ rfl 24 (rR 1 p2 true false) (0, 0) _ HP.out.box hu1 rfl (by kernel_rfl) ?_) | ((with_reducible refine gate_store (t := 24) (p := 2) rfl ?_); refine wpList_store_rowTo rfl 24 (.tmp 2) (.tmp 74) rfl rfl w.heap.size (rR 1 p2 true false) rfl rfl 24 zR HP.out.res (by kernel_rfl) rfl (rR_one _ _ _ _) ?_))
  refine bodyPost_ret (results_ct rfl _ _ w.heap.size 24 (rR 1 p2 true false) (0, 0) _ rfl (setRow_heap _ _ zR _ 24 (0, 0) HP.out.res) hu1 rfl (by kernel_rfl)) rfl ?_
  exact ⟨rfl, below_setRow HP.out.below (Nat.le_refl _) _⟩
 ·rw [if_neg hz]
  have q1 : (er != 0) = true := bne_iff_ne.2 hz
  go_enter Tryd.func12, Tryd.ntmps12
  go_wp2_with (first | ((with_reducible refine gate_store (t := 24) (p := 4) rfl ?_); refine store_event rfl rfl rfl (store_runR _ _ 24 zR (rR 0 t false false) (RB.of0 w).box (.tmp 4) (.tmp 18) rfl rfl rfl (by kernel_rfl) rfl (rR_one _ _ _ _)) ?_; intro w8 hw8; have HP := Aside0.mk (show RB w w8 (w.heap.size + 1) (rR 0 t false false) from by rw [hw8]; exact RB.row_ (RB.of0 w) (rR 0 t false false)); clear hw8 HD; have hk1 := blk_cell HP.out.box 1; change _ = some (Value.string t) at hk1) | ((with_reducible refine gate_store (t := 3) (p := 24) rfl ?_); refine store_event rfl rfl rfl (store_cellR _ HP.out.box 0 3 (.int .i64 1) (.tmp 24) (.const (.int .i64 1)) rfl rfl rfl (by kernel_rfl) (show 0 < 4 by decide) rfl) ?_; intro w8 hw8; have n0_ := Aside0.mk (show RB w w8 (w.heap.size + 1) (rR 1 t false false) from by rw [hw8]; exact RB.put HP.out 0 _ _ rfl); clear hw8 HP hk1; have HP := n0_; clear n0_; have hk1 := blk_cell HP.out.box 1; change _ = some (Value.string t) at hk1) | ((with_reducible refine gate_store (t := 4) (p := 61) rfl ?_); refine store_event rfl rfl rfl (store_cellR _ HP.out.box 2 4 (.bool true) (.tmp 61) (.const (.bool true)) rfl rfl rfl (by kernel_rfl) (show 2 < 4 by decide) rfl) ?_; intro w8 hw8; have n0_ := Aside0.mk (show RB w w8 (w.heap.size + 1) (rR 1 t true false) from by rw [hw8]; exact RB.put HP.out 2 _ _ rfl); clear hw8 HP hk1; have HP := n0_; clear n0_; have hk1 := blk_cell HP.out.box 1; change _ = some (Value.string t) at hk1) | ((with_reducible refine gate_store (t := 9) (p := 67) rfl ?_); refine store_event rfl rfl rfl (store_cellR _ HP.out.box 1 9 (.string p2) (.tmp 67) (.tmp 66) rfl rfl rfl (by kernel_rfl) (show 1 < 4 by decide) rfl) ?_; intro w8 hw8; have n0_ := Aside0.mk (show RB w w8 (w.heap.size + 1) (rR 1 p2 true false) from by rw [hw8]; exact RB.put HP.out 1 _ _ rfl); clear hw8 HP hk1; have HP := n0_; clear n0_; have hk1 := blk_cell HP.out.box 1; change _ = some (Value.string p2) at hk1) | ((with_reducible refine gate_dst (N := 68) rfl ?_); refine wpList_load_row rfl 24 (.tmp 4) rfl _ rfl 24 (rR 1 p2 true false) (0, 0) _ HP.out.box hu1 rfl (by kernel_rfl) ?_) | (go_at_call 40; (with_reducible refine (hck _).mono ?_); rintro e w4 ⟨rfl, hb⟩; clear hk1; have n0_ := Aside0.mk (RB.step HP.out hb); clear HP hb; have HP := n0_; clear n0_) | ((with_reducible refine gate_store (t := 24) (p := 2) rfl ?_); refine wpList_store_rowTo rfl 24 (.tmp 2) (.tmp 72) rfl rfl w.heap.size zR rfl rfl 24 zR HP.out.res (by kernel_rfl) rfl (rR_one _ _ _ _) ?_))
  refine bodyPost_ret (results_ct rfl _ _ w.heap.size 24 zR (0, 0) _ rfl (setRow_heap _ _ zR _ 24 (0, 0) HP.out.res) hu1 rfl (by kernel_rfl)) rfl ?_
  exact ⟨rfl, below_setRow HP.out.below (Nat.le_refl _) _⟩
set_option maxHeartbeats 8000000 in
set_option maxRecDepth 100000 in
theorem rparse_1_yes_empty (a0 : ByteArray) (w : World) (hs : a0.size < 1000000) (hb0 : 0 < a0.size) (hb1 : 1 < a0.size) (hc0 : ((a0[0]'hb0).toNat : Int) = 43) (hc1 : ((a0[1]'hb1).toNat : Int) = 32)
  (t : ByteArray) (ht : a0.extract 2 a0.size = t) (hte : 0 < t.size) (ht0 : ((t[0]'hte).toNat : Int) = 47) (p1 : ByteArray) (hp1 : t.extract 1 t.size = p1) (hpe : p1.size = 0) (er : Int)
  (hck : ∀ w, Calls Tryd.prog 40 #[.agg (rR 1 p1 false true)] w fun e w' => e = .returned (.int .i64 er) ∧ Below w.heap.size w w') :
  Calls Tryd.prog 12 #[.string a0] w fun e w' => e = .returned (if er = 0 then .tuple #[.agg (rR 1 p1 false true), .int .i64 0] else .tuple #[.agg zR, .int .i64 er]) ∧ Below w.heap.size w w' := by
 have hu1 := Tryd.underlying24
 have HD := Aside0.mk (B1.start 24 w zR)
 have l1 : ((a0.size : Int) < 2) = False := eq_false (by omega)
 have l2 : (a0.size < 2) = False := eq_false (by omega)
 have l3 : ((0 : Int) < (a0.size : Int)) = True := eq_true (by omega)
 have l4 : (0 < a0.size) = True := eq_true hb0
 have l5 : ((1 : Int) < (a0.size : Int)) = True := eq_true (by omega)
 have l6 : (1 < a0.size) = True := eq_true hb1
 have l7 : ((2 : Int) ≤ (a0.size : Int)) = True := eq_true (by omega)
 have l8 : (2 ≤ a0.size) = True := eq_true hb1
 have f1 : (t.toList == []) = false := tl_ne t hte
 have f2 : (0 < t.size) = True := eq_true hte
 have f3 : ((0 : Int) < (t.size : Int)) = True := eq_true (by omega)
 have f5 : ((1 : Int) ≤ (t.size : Int)) = True := eq_true (by omega)
 have f6 : (1 ≤ t.size) = True := eq_true hte
 have g1 : (p1.size : Int) = 0 := by omega
 by_cases hz : er = 0
 ·subst hz
  rw [if_pos rfl]
  go_enter Tryd.func12, Tryd.ntmps12
  go_wp2_with (first | ((with_reducible refine gate_store (t := 24) (p := 4) rfl ?_); refine store_event rfl rfl rfl (store_runR _ _ 24 zR (rR 0 t false false) (RB.of0 w).box (.tmp 4) (.tmp 18) rfl rfl rfl (by kernel_rfl) rfl (rR_one _ _ _ _)) ?_; intro w8 hw8; have HP := Aside0.mk (show RB w w8 (w.heap.size + 1) (rR 0 t false false) from by rw [hw8]; exact RB.row_ (RB.of0 w) (rR 0 t false false)); clear hw8 HD; have hk1 := blk_cell HP.out.box 1; change _ = some (Value.string t) at hk1) | ((with_reducible refine gate_store (t := 3) (p := 24) rfl ?_); refine store_event rfl rfl rfl (store_cellR _ HP.out.box 0 3 (.int .i64 1) (.tmp 24) (.const (.int .i64 1)) rfl rfl rfl (by kernel_rfl) (show 0 < 4 by decide) rfl) ?_; intro w8 hw8; have n0_ := Aside0.mk (show RB w w8 (w.heap.size + 1) (rR 1 t false false) from by rw [hw8]; exact RB.put HP.out 0 _ _ rfl); clear hw8 HP hk1; have HP := n0_; clear n0_; have hk1 := blk_cell HP.out.box 1; change _ = some (Value.string t) at hk1) | ((with_reducible refine gate_store (t := 4) (p := 43) rfl ?_); refine store_event rfl rfl rfl (store_cellR _ HP.out.box 3 4 (.bool true) (.tmp 43) (.const (.bool true)) rfl rfl rfl (by kernel_rfl) (show 3 < 4 by decide) rfl) ?_; intro w8 hw8; have n0_ := Aside0.mk (show RB w w8 (w.heap.size + 1) (rR 1 t false true) from by rw [hw8]; exact RB.put HP.out 3 _ _ rfl); clear hw8 HP hk1; have HP := n0_; clear n0_; have hk1 := blk_cell HP.out.box 1; change _ = some (Value.string t) at hk1) | ((with_reducible refine gate_store (t := 9) (p := 47) rfl ?_); refine store_event rfl rfl rfl (store_cellR _ HP.out.box 1 9 (.string p1) (.tmp 47) (.tmp 46) rfl rfl rfl (by kernel_rfl) (show 1 < 4 by decide) rfl) ?_; intro w8 hw8; have n0_ := Aside0.mk (show RB w w8 (w.heap.size + 1) (rR 1 p1 false true) from by rw [hw8]; exact RB.put HP.out 1 _ _ rfl); clear hw8 HP hk1; have HP := n0_; clear n0_; have hk1 := blk_cell HP.out.box 1; change _ = some (Value.string p1) at hk1) | ((with_reducible refine gate_dst (N := 68) rfl ?_); refine wpList_load_row rfl 24 (.tmp 4) rfl _ rfl 24 (rR 1 p1 false true) (0, 0) _ HP.out.box hu1 rfl (by kernel_rfl) ?_) | (go_at_call 40; (with_reducible refine (hck _).mono ?_); rintro e w4 ⟨rfl, hb⟩; clear hk1; have n0_ := Aside0.mk (RB.step HP.out hb); clear HP hb; have HP := n0_; clear n0_) | ((with_reducible refine gate_dst (N := 74) rfl ?_); refine wpList_load_row rfl 24 (.tmp 4) rfl _ rfl 24 (rR 1 p1 false true) (0, 0) _ HP.out.box hu1 rfl (by kernel_rfl) ?_) | ((with_reducible refine gate_store (t := 24) (p := 2) rfl ?_); refine wpList_store_rowTo rfl 24 (.tmp 2) (.tmp 74) rfl rfl w.heap.size (rR 1 p1 false true) rfl rfl 24 zR HP.out.res (by kernel_rfl) rfl (rR_one _ _ _ _) ?_))
  refine bodyPost_ret (results_ct rfl _ _ w.heap.size 24 (rR 1 p1 false true) (0, 0) _ rfl (setRow_heap _ _ zR _ 24 (0, 0) HP.out.res) hu1 rfl (by kernel_rfl)) rfl ?_
  exact ⟨rfl, below_setRow HP.out.below (Nat.le_refl _) _⟩
 ·rw [if_neg hz]
  have q1 : (er != 0) = true := bne_iff_ne.2 hz
  go_enter Tryd.func12, Tryd.ntmps12
  go_wp2_with (first | ((with_reducible refine gate_store (t := 24) (p := 4) rfl ?_); refine store_event rfl rfl rfl (store_runR _ _ 24 zR (rR 0 t false false) (RB.of0 w).box (.tmp 4) (.tmp 18) rfl rfl rfl (by kernel_rfl) rfl (rR_one _ _ _ _)) ?_; intro w8 hw8; have HP := Aside0.mk (show RB w w8 (w.heap.size + 1) (rR 0 t false false) from by rw [hw8]; exact RB.row_ (RB.of0 w) (rR 0 t false false)); clear hw8 HD; have hk1 := blk_cell HP.out.box 1; change _ = some (Value.string t) at hk1) | ((with_reducible refine gate_store (t := 3) (p := 24) rfl ?_); refine store_event rfl rfl rfl (store_cellR _ HP.out.box 0 3 (.int .i64 1) (.tmp 24) (.const (.int .i64 1)) rfl rfl rfl (by kernel_rfl) (show 0 < 4 by decide) rfl) ?_; intro w8 hw8; have n0_ := Aside0.mk (show RB w w8 (w.heap.size + 1) (rR 1 t false false) from by rw [hw8]; exact RB.put HP.out 0 _ _ rfl); clear hw8 HP hk1; have HP := n0_; clear n0_; have hk1 := blk_cell HP.out.box 1; change _ = some (Value.string t) at hk1) | ((with_reducible refine gate_store (t := 4) (p := 43) rfl ?_); refine store_event rfl rfl rfl (store_cellR _ HP.out.box 3 4 (.bool true) (.tmp 43) (.const (.bool true)) rfl rfl rfl (by kernel_rfl) (show 3 < 4 by decide) rfl) ?_; intro w8 hw8; have n0_ := Aside0.mk (show RB w w8 (w.heap.size + 1) (rR 1 t false true) from by rw [hw8]; exact RB.put HP.out 3 _ _ rfl); clear hw8 HP hk1; have HP := n0_; clear n0_; have hk1 := blk_cell HP.out.box 1; change _ = some (Value.string t) at hk1) | ((with_reducible refine gate_store (t := 9) (p := 47) rfl ?_); refine store_event rfl rfl rfl (store_cellR _ HP.out.box 1 9 (.string p1) (.tmp 47) (.tmp 46) rfl rfl rfl (by kernel_rfl) (show 1 < 4 by decide) rfl) ?_; intro w8 hw8; have n0_ := Aside0.mk (show RB w w8 (w.heap.size + 1) (rR 1 p1 false true) from by rw [hw8]; exact RB.put HP.out 1 _ _ rfl); clear hw8 HP hk1; have HP := n0_; clear n0_; have hk1 := blk_cell HP.out.box 1; change _ = some (Value.string p1) at hk1) | ((with_reducible refine gate_dst (N := 68) rfl ?_); refine wpList_load_row rfl 24 (.tmp 4) rfl _ rfl 24 (rR 1 p1 false true) (0, 0) _ HP.out.box hu1 rfl (by kernel_rfl) ?_) | (go_at_call 40; (with_reducible refine (hck _).mono ?_); rintro e w4 ⟨rfl, hb⟩; clear hk1; have n0_ := Aside0.mk (RB.step HP.out hb); clear HP hb; have HP := n0_; clear n0_) | ((with_reducible refine gate_store (t := 24) (p := 2) rfl ?_); refine wpList_store_rowTo rfl 24 (.tmp 2) (.tmp 72) rfl rfl w.heap.size zR rfl rfl 24 zR HP.out.res (by kernel_rfl) rfl (rR_one _ _ _ _) ?_))
  refine bodyPost_ret (results_ct rfl _ _ w.heap.size 24 zR (0, 0) _ rfl (setRow_heap _ _ zR _ 24 (0, 0) HP.out.res) hu1 rfl (by kernel_rfl)) rfl ?_
  exact ⟨rfl, below_setRow HP.out.below (Nat.le_refl _) _⟩
set_option maxHeartbeats 8000000 in
set_option maxRecDepth 100000 in
theorem rparse_1_yes_no (a0 : ByteArray) (w : World) (hs : a0.size < 1000000) (hb0 : 0 < a0.size) (hb1 : 1 < a0.size) (hc0 : ((a0[0]'hb0).toNat : Int) = 43) (hc1 : ((a0[1]'hb1).toNat : Int) = 32)
  (t : ByteArray) (ht : a0.extract 2 a0.size = t) (hte : 0 < t.size) (ht0 : ((t[0]'hte).toNat : Int) = 47) (p1 : ByteArray) (hp1 : t.extract 1 t.size = p1) (hpe : 0 < p1.size) (m : Nat) (hm : wrap64 ((p1.size : Int) - 1) = (m : Int)) (hml : m < p1.size) (hpl : ¬ ((p1[m]'hml).toNat : Int) = 47) (er : Int)
  (hck : ∀ w, Calls Tryd.prog 40 #[.agg (rR 1 p1 false true)] w fun e w' => e = .returned (.int .i64 er) ∧ Below w.heap.size w w') :
  Calls Tryd.prog 12 #[.string a0] w fun e w' => e = .returned (if er = 0 then .tuple #[.agg (rR 1 p1 false true), .int .i64 0] else .tuple #[.agg zR, .int .i64 er]) ∧ Below w.heap.size w w' := by
 have hu1 := Tryd.underlying24
 have HD := Aside0.mk (B1.start 24 w zR)
 have l1 : ((a0.size : Int) < 2) = False := eq_false (by omega)
 have l2 : (a0.size < 2) = False := eq_false (by omega)
 have l3 : ((0 : Int) < (a0.size : Int)) = True := eq_true (by omega)
 have l4 : (0 < a0.size) = True := eq_true hb0
 have l5 : ((1 : Int) < (a0.size : Int)) = True := eq_true (by omega)
 have l6 : (1 < a0.size) = True := eq_true hb1
 have l7 : ((2 : Int) ≤ (a0.size : Int)) = True := eq_true (by omega)
 have l8 : (2 ≤ a0.size) = True := eq_true hb1
 have f1 : (t.toList == []) = false := tl_ne t hte
 have f2 : (0 < t.size) = True := eq_true hte
 have f3 : ((0 : Int) < (t.size : Int)) = True := eq_true (by omega)
 have f5 : ((1 : Int) ≤ (t.size : Int)) = True := eq_true (by omega)
 have f6 : (1 ≤ t.size) = True := eq_true hte
 have g2 : (m < p1.size) = True := eq_true hml
 have g3 : ((m : Int) < (p1.size : Int)) = True := eq_true (by omega)
 have g5 : (m ≤ p1.size) = True := eq_true (Nat.le_of_lt hml)
 have g6 : ((m : Int) ≤ (p1.size : Int)) = True := eq_true (by omega)
 have g4 : (((p1[m]'hml).toNat : Int) == 47) = false := beq_eq_false_iff_ne.2 hpl
 have g0 : (0 < p1.size) = True := eq_true hpe
 have g1 : ((0 : Int) < (p1.size : Int)) = True := eq_true (by omega)
 by_cases hz : er = 0
 ·subst hz
  rw [if_pos rfl]
  go_enter Tryd.func12, Tryd.ntmps12
  go_wp2_with (first | ((with_reducible refine gate_store (t := 24) (p := 4) rfl ?_); refine store_event rfl rfl rfl (store_runR _ _ 24 zR (rR 0 t false false) (RB.of0 w).box (.tmp 4) (.tmp 18) rfl rfl rfl (by kernel_rfl) rfl (rR_one _ _ _ _)) ?_; intro w8 hw8; have HP := Aside0.mk (show RB w w8 (w.heap.size + 1) (rR 0 t false false) from by rw [hw8]; exact RB.row_ (RB.of0 w) (rR 0 t false false)); clear hw8 HD; have hk1 := blk_cell HP.out.box 1; change _ = some (Value.string t) at hk1) | ((with_reducible refine gate_store (t := 3) (p := 24) rfl ?_); refine store_event rfl rfl rfl (store_cellR _ HP.out.box 0 3 (.int .i64 1) (.tmp 24) (.const (.int .i64 1)) rfl rfl rfl (by kernel_rfl) (show 0 < 4 by decide) rfl) ?_; intro w8 hw8; have n0_ := Aside0.mk (show RB w w8 (w.heap.size + 1) (rR 1 t false false) from by rw [hw8]; exact RB.put HP.out 0 _ _ rfl); clear hw8 HP hk1; have HP := n0_; clear n0_; have hk1 := blk_cell HP.out.box 1; change _ = some (Value.string t) at hk1) | ((with_reducible refine gate_store (t := 4) (p := 43) rfl ?_); refine store_event rfl rfl rfl (store_cellR _ HP.out.box 3 4 (.bool true) (.tmp 43) (.const (.bool true)) rfl rfl rfl (by kernel_rfl) (show 3 < 4 by decide) rfl) ?_; intro w8 hw8; have n0_ := Aside0.mk (show RB w w8 (w.heap.size + 1) (rR 1 t false true) from by rw [hw8]; exact RB.put HP.out 3 _ _ rfl); clear hw8 HP hk1; have HP := n0_; clear n0_; have hk1 := blk_cell HP.out.box 1; change _ = some (Value.string t) at hk1) | ((with_reducible refine gate_store (t := 9) (p := 47) rfl ?_); refine store_event rfl rfl rfl (store_cellR _ HP.out.box 1 9 (.string p1) (.tmp 47) (.tmp 46) rfl rfl rfl (by kernel_rfl) (show 1 < 4 by decide) rfl) ?_; intro w8 hw8; have n0_ := Aside0.mk (show RB w w8 (w.heap.size + 1) (rR 1 p1 false true) from by rw [hw8]; exact RB.put HP.out 1 _ _ rfl); clear hw8 HP hk1; have HP := n0_; clear n0_; have hk1 := blk_cell HP.out.box 1; change _ = some (Value.string p1) at hk1) | ((with_reducible refine gate_dst (N := 68) rfl ?_); refine wpList_load_row rfl 24 (.tmp 4) rfl _ rfl 24 (rR 1 p1 false true) (0, 0) _ HP.out.box hu1 rfl (by kernel_rfl) ?_) | (go_at_call 40; (with_reducible refine (hck _).mono ?_); rintro e w4 ⟨rfl, hb⟩; clear hk1; have n0_ := Aside0.mk (RB.step HP.out hb); clear HP hb; have HP := n0_; clear n0_) | ((with_reducible refine gate_dst (N := 74) rfl ?_); refine wpList_load_row rfl 24 (.tmp 4) rfl _ rfl 24 (rR 1 p1 false true) (0, 0) _ HP.out.box hu1 rfl (by kernel_rfl) ?_) | ((with_reducible refine gate_store (t := 24) (p := 2) rfl ?_); refine wpList_store_rowTo rfl 24 (.tmp 2) (.tmp 74) rfl rfl w.heap.size (rR 1 p1 false true) rfl rfl 24 zR HP.out.res (by kernel_rfl) rfl (rR_one _ _ _ _) ?_))
  refine bodyPost_ret (results_ct rfl _ _ w.heap.size 24 (rR 1 p1 false true) (0, 0) _ rfl (setRow_heap _ _ zR _ 24 (0, 0) HP.out.res) hu1 rfl (by kernel_rfl)) rfl ?_
  exact ⟨rfl, below_setRow HP.out.below (Nat.le_refl _) _⟩
 ·rw [if_neg hz]
  have q1 : (er != 0) = true := bne_iff_ne.2 hz
  go_enter Tryd.func12, Tryd.ntmps12
  go_wp2_with (first | ((with_reducible refine gate_store (t := 24) (p := 4) rfl ?_); refine store_event rfl rfl rfl (store_runR _ _ 24 zR (rR 0 t false false) (RB.of0 w).box (.tmp 4) (.tmp 18) rfl rfl rfl (by kernel_rfl) rfl (rR_one _ _ _ _)) ?_; intro w8 hw8; have HP := Aside0.mk (show RB w w8 (w.heap.size + 1) (rR 0 t false false) from by rw [hw8]; exact RB.row_ (RB.of0 w) (rR 0 t false false)); clear hw8 HD; have hk1 := blk_cell HP.out.box 1; change _ = some (Value.string t) at hk1) | ((with_reducible refine gate_store (t := 3) (p := 24) rfl ?_); refine store_event rfl rfl rfl (store_cellR _ HP.out.box 0 3 (.int .i64 1) (.tmp 24) (.const (.int .i64 1)) rfl rfl rfl (by kernel_rfl) (show 0 < 4 by decide) rfl) ?_; intro w8 hw8; have n0_ := Aside0.mk (show RB w w8 (w.heap.size + 1) (rR 1 t false false) from by rw [hw8]; exact RB.put HP.out 0 _ _ rfl); clear hw8 HP hk1; have HP := n0_; clear n0_; have hk1 := blk_cell HP.out.box 1; change _ = some (Value.string t) at hk1) | ((with_reducible refine gate_store (t := 4) (p := 43) rfl ?_); refine store_event rfl rfl rfl (store_cellR _ HP.out.box 3 4 (.bool true) (.tmp 43) (.const (.bool true)) rfl rfl rfl (by kernel_rfl) (show 3 < 4 by decide) rfl) ?_; intro w8 hw8; have n0_ := Aside0.mk (show RB w w8 (w.heap.size + 1) (rR 1 t false true) from by rw [hw8]; exact RB.put HP.out 3 _ _ rfl); clear hw8 HP hk1; have HP := n0_; clear n0_; have hk1 := blk_cell HP.out.box 1; change _ = some (Value.string t) at hk1) | ((with_reducible refine gate_store (t := 9) (p := 47) rfl ?_); refine store_event rfl rfl rfl (store_cellR _ HP.out.box 1 9 (.string p1) (.tmp 47) (.tmp 46) rfl rfl rfl (by kernel_rfl) (show 1 < 4 by decide) rfl) ?_; intro w8 hw8; have n0_ := Aside0.mk (show RB w w8 (w.heap.size + 1) (rR 1 p1 false true) from by rw [hw8]; exact RB.put HP.out 1 _ _ rfl); clear hw8 HP hk1; have HP := n0_; clear n0_; have hk1 := blk_cell HP.out.box 1; change _ = some (Value.string p1) at hk1) | ((with_reducible refine gate_dst (N := 68) rfl ?_); refine wpList_load_row rfl 24 (.tmp 4) rfl _ rfl 24 (rR 1 p1 false true) (0, 0) _ HP.out.box hu1 rfl (by kernel_rfl) ?_) | (go_at_call 40; (with_reducible refine (hck _).mono ?_); rintro e w4 ⟨rfl, hb⟩; clear hk1; have n0_ := Aside0.mk (RB.step HP.out hb); clear HP hb; have HP := n0_; clear n0_) | ((with_reducible refine gate_store (t := 24) (p := 2) rfl ?_); refine wpList_store_rowTo rfl 24 (.tmp 2) (.tmp 72) rfl rfl w.heap.size zR rfl rfl 24 zR HP.out.res (by kernel_rfl) rfl (rR_one _ _ _ _) ?_))
  refine bodyPost_ret (results_ct rfl _ _ w.heap.size 24 zR (0, 0) _ rfl (setRow_heap _ _ zR _ 24 (0, 0) HP.out.res) hu1 rfl (by kernel_rfl)) rfl ?_
  exact ⟨rfl, below_setRow HP.out.below (Nat.le_refl _) _⟩
set_option maxHeartbeats 8000000 in
set_option maxRecDepth 100000 in
theorem rparse_1_yes_yes (a0 : ByteArray) (w : World) (hs : a0.size < 1000000) (hb0 : 0 < a0.size) (hb1 : 1 < a0.size) (hc0 : ((a0[0]'hb0).toNat : Int) = 43) (hc1 : ((a0[1]'hb1).toNat : Int) = 32)
  (t : ByteArray) (ht : a0.extract 2 a0.size = t) (hte : 0 < t.size) (ht0 : ((t[0]'hte).toNat : Int) = 47) (p1 : ByteArray) (hp1 : t.extract 1 t.size = p1) (hpe : 0 < p1.size) (m : Nat) (hm : wrap64 ((p1.size : Int) - 1) = (m : Int)) (hml : m < p1.size) (hpl : ((p1[m]'hml).toNat : Int) = 47) (p2 : ByteArray) (hp2 : p1.extract 0 m = p2) (er : Int)
  (hck : ∀ w, Calls Tryd.prog 40 #[.agg (rR 1 p2 true true)] w fun e w' => e = .returned (.int .i64 er) ∧ Below w.heap.size w w') :
  Calls Tryd.prog 12 #[.string a0] w fun e w' => e = .returned (if er = 0 then .tuple #[.agg (rR 1 p2 true true), .int .i64 0] else .tuple #[.agg zR, .int .i64 er]) ∧ Below w.heap.size w w' := by
 have hu1 := Tryd.underlying24
 have HD := Aside0.mk (B1.start 24 w zR)
 have l1 : ((a0.size : Int) < 2) = False := eq_false (by omega)
 have l2 : (a0.size < 2) = False := eq_false (by omega)
 have l3 : ((0 : Int) < (a0.size : Int)) = True := eq_true (by omega)
 have l4 : (0 < a0.size) = True := eq_true hb0
 have l5 : ((1 : Int) < (a0.size : Int)) = True := eq_true (by omega)
 have l6 : (1 < a0.size) = True := eq_true hb1
 have l7 : ((2 : Int) ≤ (a0.size : Int)) = True := eq_true (by omega)
 have l8 : (2 ≤ a0.size) = True := eq_true hb1
 have f1 : (t.toList == []) = false := tl_ne t hte
 have f2 : (0 < t.size) = True := eq_true hte
 have f3 : ((0 : Int) < (t.size : Int)) = True := eq_true (by omega)
 have f5 : ((1 : Int) ≤ (t.size : Int)) = True := eq_true (by omega)
 have f6 : (1 ≤ t.size) = True := eq_true hte
 have g2 : (m < p1.size) = True := eq_true hml
 have g3 : ((m : Int) < (p1.size : Int)) = True := eq_true (by omega)
 have g5 : (m ≤ p1.size) = True := eq_true (Nat.le_of_lt hml)
 have g6 : ((m : Int) ≤ (p1.size : Int)) = True := eq_true (by omega)
 have g0 : (0 < p1.size) = True := eq_true hpe
 have g1 : ((0 : Int) < (p1.size : Int)) = True := eq_true (by omega)
 by_cases hz : er = 0
 ·subst hz
  rw [if_pos rfl]
  go_enter Tryd.func12, Tryd.ntmps12
  go_wp2_with (first | ((with_reducible refine gate_store (t := 24) (p := 4) rfl ?_); refine store_event rfl rfl rfl (store_runR _ _ 24 zR (rR 0 t false false) (RB.of0 w).box (.tmp 4) (.tmp 18) rfl rfl rfl (by kernel_rfl) rfl (rR_one _ _ _ _)) ?_; intro w8 hw8; have HP := Aside0.mk (show RB w w8 (w.heap.size + 1) (rR 0 t false false) from by rw [hw8]; exact RB.row_ (RB.of0 w) (rR 0 t false false)); clear hw8 HD; have hk1 := blk_cell HP.out.box 1; change _ = some (Value.string t) at hk1) | ((with_reducible refine gate_store (t := 3) (p := 24) rfl ?_); refine store_event rfl rfl rfl (store_cellR _ HP.out.box 0 3 (.int .i64 1) (.tmp 24) (.const (.int .i64 1)) rfl rfl rfl (by kernel_rfl) (show 0 < 4 by decide) rfl) ?_; intro w8 hw8; have n0_ := Aside0.mk (show RB w w8 (w.heap.size + 1) (rR 1 t false false) from by rw [hw8]; exact RB.put HP.out 0 _ _ rfl); clear hw8 HP hk1; have HP := n0_; clear n0_; have hk1 := blk_cell HP.out.box 1; change _ = some (Value.string t) at hk1) | ((with_reducible refine gate_store (t := 4) (p := 43) rfl ?_); refine store_event rfl rfl rfl (store_cellR _ HP.out.box 3 4 (.bool true) (.tmp 43) (.const (.bool true)) rfl rfl rfl (by kernel_rfl) (show 3 < 4 by decide) rfl) ?_; intro w8 hw8; have n0_ := Aside0.mk (show RB w w8 (w.heap.size + 1) (rR 1 t false true) from by rw [hw8]; exact RB.put HP.out 3 _ _ rfl); clear hw8 HP hk1; have HP := n0_; clear n0_; have hk1 := blk_cell HP.out.box 1; change _ = some (Value.string t) at hk1) | ((with_reducible refine gate_store (t := 9) (p := 47) rfl ?_); refine store_event rfl rfl rfl (store_cellR _ HP.out.box 1 9 (.string p1) (.tmp 47) (.tmp 46) rfl rfl rfl (by kernel_rfl) (show 1 < 4 by decide) rfl) ?_; intro w8 hw8; have n0_ := Aside0.mk (show RB w w8 (w.heap.size + 1) (rR 1 p1 false true) from by rw [hw8]; exact RB.put HP.out 1 _ _ rfl); clear hw8 HP hk1; have HP := n0_; clear n0_; have hk1 := blk_cell HP.out.box 1; change _ = some (Value.string p1) at hk1) | ((with_reducible refine gate_store (t := 4) (p := 61) rfl ?_); refine store_event rfl rfl rfl (store_cellR _ HP.out.box 2 4 (.bool true) (.tmp 61) (.const (.bool true)) rfl rfl rfl (by kernel_rfl) (show 2 < 4 by decide) rfl) ?_; intro w8 hw8; have n0_ := Aside0.mk (show RB w w8 (w.heap.size + 1) (rR 1 p1 true true) from by rw [hw8]; exact RB.put HP.out 2 _ _ rfl); clear hw8 HP hk1; have HP := n0_; clear n0_; have hk1 := blk_cell HP.out.box 1; change _ = some (Value.string p1) at hk1) | ((with_reducible refine gate_store (t := 9) (p := 67) rfl ?_); refine store_event rfl rfl rfl (store_cellR _ HP.out.box 1 9 (.string p2) (.tmp 67) (.tmp 66) rfl rfl rfl (by kernel_rfl) (show 1 < 4 by decide) rfl) ?_; intro w8 hw8; have n0_ := Aside0.mk (show RB w w8 (w.heap.size + 1) (rR 1 p2 true true) from by rw [hw8]; exact RB.put HP.out 1 _ _ rfl); clear hw8 HP hk1; have HP := n0_; clear n0_; have hk1 := blk_cell HP.out.box 1; change _ = some (Value.string p2) at hk1) | ((with_reducible refine gate_dst (N := 68) rfl ?_); refine wpList_load_row rfl 24 (.tmp 4) rfl _ rfl 24 (rR 1 p2 true true) (0, 0) _ HP.out.box hu1 rfl (by kernel_rfl) ?_) | (go_at_call 40; (with_reducible refine (hck _).mono ?_); rintro e w4 ⟨rfl, hb⟩; clear hk1; have n0_ := Aside0.mk (RB.step HP.out hb); clear HP hb; have HP := n0_; clear n0_) | ((with_reducible refine gate_dst (N := 74) rfl ?_); refine wpList_load_row rfl 24 (.tmp 4) rfl _ rfl 24 (rR 1 p2 true true) (0, 0) _ HP.out.box hu1 rfl (by kernel_rfl) ?_) | ((with_reducible refine gate_store (t := 24) (p := 2) rfl ?_); refine wpList_store_rowTo rfl 24 (.tmp 2) (.tmp 74) rfl rfl w.heap.size (rR 1 p2 true true) rfl rfl 24 zR HP.out.res (by kernel_rfl) rfl (rR_one _ _ _ _) ?_))
  refine bodyPost_ret (results_ct rfl _ _ w.heap.size 24 (rR 1 p2 true true) (0, 0) _ rfl (setRow_heap _ _ zR _ 24 (0, 0) HP.out.res) hu1 rfl (by kernel_rfl)) rfl ?_
  exact ⟨rfl, below_setRow HP.out.below (Nat.le_refl _) _⟩
 ·rw [if_neg hz]
  have q1 : (er != 0) = true := bne_iff_ne.2 hz
  go_enter Tryd.func12, Tryd.ntmps12
  go_wp2_with (first | ((with_reducible refine gate_store (t := 24) (p := 4) rfl ?_); refine store_event rfl rfl rfl (store_runR _ _ 24 zR (rR 0 t false false) (RB.of0 w).box (.tmp 4) (.tmp 18) rfl rfl rfl (by kernel_rfl) rfl (rR_one _ _ _ _)) ?_; intro w8 hw8; have HP := Aside0.mk (show RB w w8 (w.heap.size + 1) (rR 0 t false false) from by rw [hw8]; exact RB.row_ (RB.of0 w) (rR 0 t false false)); clear hw8 HD; have hk1 := blk_cell HP.out.box 1; change _ = some (Value.string t) at hk1) | ((with_reducible refine gate_store (t := 3) (p := 24) rfl ?_); refine store_event rfl rfl rfl (store_cellR _ HP.out.box 0 3 (.int .i64 1) (.tmp 24) (.const (.int .i64 1)) rfl rfl rfl (by kernel_rfl) (show 0 < 4 by decide) rfl) ?_; intro w8 hw8; have n0_ := Aside0.mk (show RB w w8 (w.heap.size + 1) (rR 1 t false false) from by rw [hw8]; exact RB.put HP.out 0 _ _ rfl); clear hw8 HP hk1; have HP := n0_; clear n0_; have hk1 := blk_cell HP.out.box 1; change _ = some (Value.string t) at hk1) | ((with_reducible refine gate_store (t := 4) (p := 43) rfl ?_); refine store_event rfl rfl rfl (store_cellR _ HP.out.box 3 4 (.bool true) (.tmp 43) (.const (.bool true)) rfl rfl rfl (by kernel_rfl) (show 3 < 4 by decide) rfl) ?_; intro w8 hw8; have n0_ := Aside0.mk (show RB w w8 (w.heap.size + 1) (rR 1 t false true) from by rw [hw8]; exact RB.put HP.out 3 _ _ rfl); clear hw8 HP hk1; have HP := n0_; clear n0_; have hk1 := blk_cell HP.out.box 1; change _ = some (Value.string t) at hk1) | ((with_reducible refine gate_store (t := 9) (p := 47) rfl ?_); refine store_event rfl rfl rfl (store_cellR _ HP.out.box 1 9 (.string p1) (.tmp 47) (.tmp 46) rfl rfl rfl (by kernel_rfl) (show 1 < 4 by decide) rfl) ?_; intro w8 hw8; have n0_ := Aside0.mk (show RB w w8 (w.heap.size + 1) (rR 1 p1 false true) from by rw [hw8]; exact RB.put HP.out 1 _ _ rfl); clear hw8 HP hk1; have HP := n0_; clear n0_; have hk1 := blk_cell HP.out.box 1; change _ = some (Value.string p1) at hk1) | ((with_reducible refine gate_store (t := 4) (p := 61) rfl ?_); refine store_event rfl rfl rfl (store_cellR _ HP.out.box 2 4 (.bool true) (.tmp 61) (.const (.bool true)) rfl rfl rfl (by kernel_rfl) (show 2 < 4 by decide) rfl) ?_; intro w8 hw8; have n0_ := Aside0.mk (show RB w w8 (w.heap.size + 1) (rR 1 p1 true true) from by rw [hw8]; exact RB.put HP.out 2 _ _ rfl); clear hw8 HP hk1; have HP := n0_; clear n0_; have hk1 := blk_cell HP.out.box 1; change _ = some (Value.string p1) at hk1) | ((with_reducible refine gate_store (t := 9) (p := 67) rfl ?_); refine store_event rfl rfl rfl (store_cellR _ HP.out.box 1 9 (.string p2) (.tmp 67) (.tmp 66) rfl rfl rfl (by kernel_rfl) (show 1 < 4 by decide) rfl) ?_; intro w8 hw8; have n0_ := Aside0.mk (show RB w w8 (w.heap.size + 1) (rR 1 p2 true true) from by rw [hw8]; exact RB.put HP.out 1 _ _ rfl); clear hw8 HP hk1; have HP := n0_; clear n0_; have hk1 := blk_cell HP.out.box 1; change _ = some (Value.string p2) at hk1) | ((with_reducible refine gate_dst (N := 68) rfl ?_); refine wpList_load_row rfl 24 (.tmp 4) rfl _ rfl 24 (rR 1 p2 true true) (0, 0) _ HP.out.box hu1 rfl (by kernel_rfl) ?_) | (go_at_call 40; (with_reducible refine (hck _).mono ?_); rintro e w4 ⟨rfl, hb⟩; clear hk1; have n0_ := Aside0.mk (RB.step HP.out hb); clear HP hb; have HP := n0_; clear n0_) | ((with_reducible refine gate_store (t := 24) (p := 2) rfl ?_); refine wpList_store_rowTo rfl 24 (.tmp 2) (.tmp 72) rfl rfl w.heap.size zR rfl rfl 24 zR HP.out.res (by kernel_rfl) rfl (rR_one _ _ _ _) ?_))
  refine bodyPost_ret (results_ct rfl _ _ w.heap.size 24 zR (0, 0) _ rfl (setRow_heap _ _ zR _ 24 (0, 0) HP.out.res) hu1 rfl (by kernel_rfl)) rfl ?_
  exact ⟨rfl, below_setRow HP.out.below (Nat.le_refl _) _⟩
set_option maxHeartbeats 8000000 in
set_option maxRecDepth 100000 in
theorem rparse_2_empty_empty (a0 : ByteArray) (w : World) (hs : a0.size < 1000000) (hb0 : 0 < a0.size) (hb1 : 1 < a0.size) (hc0 : ((a0[0]'hb0).toNat : Int) = 45) (hc1 : ((a0[1]'hb1).toNat : Int) = 32)
  (t : ByteArray) (ht : a0.extract 2 a0.size = t) (hte : t.size = 0) (er : Int)
  (hck : ∀ w, Calls Tryd.prog 40 #[.agg (rR 2 t false false)] w fun e w' => e = .returned (.int .i64 er) ∧ Below w.heap.size w w') :
  Calls Tryd.prog 12 #[.string a0] w fun e w' => e = .returned (if er = 0 then .tuple #[.agg (rR 2 t false false), .int .i64 0] else .tuple #[.agg zR, .int .i64 er]) ∧ Below w.heap.size w w' := by
 have hu1 := Tryd.underlying24
 have HD := Aside0.mk (B1.start 24 w zR)
 have l1 : ((a0.size : Int) < 2) = False := eq_false (by omega)
 have l2 : (a0.size < 2) = False := eq_false (by omega)
 have l3 : ((0 : Int) < (a0.size : Int)) = True := eq_true (by omega)
 have l4 : (0 < a0.size) = True := eq_true hb0
 have l5 : ((1 : Int) < (a0.size : Int)) = True := eq_true (by omega)
 have l6 : (1 < a0.size) = True := eq_true hb1
 have l7 : ((2 : Int) ≤ (a0.size : Int)) = True := eq_true (by omega)
 have l8 : (2 ≤ a0.size) = True := eq_true hb1
 have f1 : t.toList = [] := by rw [ByteArray.toList_eq]; exact List.eq_nil_of_length_eq_zero (by rw [Array.length_toList]; exact hte)
 have g1 : (t.size : Int) = 0 := by omega
 by_cases hz : er = 0
 ·subst hz
  rw [if_pos rfl]
  go_enter Tryd.func12, Tryd.ntmps12
  go_wp2_with (first | ((with_reducible refine gate_store (t := 24) (p := 4) rfl ?_); refine store_event rfl rfl rfl (store_runR _ _ 24 zR (rR 0 t false false) (RB.of0 w).box (.tmp 4) (.tmp 18) rfl rfl rfl (by kernel_rfl) rfl (rR_one _ _ _ _)) ?_; intro w8 hw8; have HP := Aside0.mk (show RB w w8 (w.heap.size + 1) (rR 0 t false false) from by rw [hw8]; exact RB.row_ (RB.of0 w) (rR 0 t false false)); clear hw8 HD; have hk1 := blk_cell HP.out.box 1; change _ = some (Value.string t) at hk1) | ((with_reducible refine gate_store (t := 3) (p := 27) rfl ?_); refine store_event rfl rfl rfl (store_cellR _ HP.out.box 0 3 (.int .i64 2) (.tmp 27) (.const (.int .i64 2)) rfl rfl rfl (by kernel_rfl) (show 0 < 4 by decide) rfl) ?_; intro w8 hw8; have n0_ := Aside0.mk (show RB w w8 (w.heap.size + 1) (rR 2 t false false) from by rw [hw8]; exact RB.put HP.out 0 _ _ rfl); clear hw8 HP hk1; have HP := n0_; clear n0_; have hk1 := blk_cell HP.out.box 1; change _ = some (Value.string t) at hk1) | ((with_reducible refine gate_dst (N := 68) rfl ?_); refine wpList_load_row rfl 24 (.tmp 4) rfl _ rfl 24 (rR 2 t false false) (0, 0) _ HP.out.box hu1 rfl (by kernel_rfl) ?_) | (go_at_call 40; (with_reducible refine (hck _).mono ?_); rintro e w4 ⟨rfl, hb⟩; clear hk1; have n0_ := Aside0.mk (RB.step HP.out hb); clear HP hb; have HP := n0_; clear n0_) | ((with_reducible refine gate_dst (N := 74) rfl ?_); refine wpList_load_row rfl 24 (.tmp 4) rfl _ rfl 24 (rR 2 t false false) (0, 0) _ HP.out.box hu1 rfl (by kernel_rfl) ?_) | ((with_reducible refine gate_store (t := 24) (p := 2) rfl ?_); refine wpList_store_rowTo rfl 24 (.tmp 2) (.tmp 74) rfl rfl w.heap.size (rR 2 t false false) rfl rfl 24 zR HP.out.res (by kernel_rfl) rfl (rR_one _ _ _ _) ?_))
  refine bodyPost_ret (results_ct rfl _ _ w.heap.size 24 (rR 2 t false false) (0, 0) _ rfl (setRow_heap _ _ zR _ 24 (0, 0) HP.out.res) hu1 rfl (by kernel_rfl)) rfl ?_
  exact ⟨rfl, below_setRow HP.out.below (Nat.le_refl _) _⟩
 ·rw [if_neg hz]
  have q1 : (er != 0) = true := bne_iff_ne.2 hz
  go_enter Tryd.func12, Tryd.ntmps12
  go_wp2_with (first | ((with_reducible refine gate_store (t := 24) (p := 4) rfl ?_); refine store_event rfl rfl rfl (store_runR _ _ 24 zR (rR 0 t false false) (RB.of0 w).box (.tmp 4) (.tmp 18) rfl rfl rfl (by kernel_rfl) rfl (rR_one _ _ _ _)) ?_; intro w8 hw8; have HP := Aside0.mk (show RB w w8 (w.heap.size + 1) (rR 0 t false false) from by rw [hw8]; exact RB.row_ (RB.of0 w) (rR 0 t false false)); clear hw8 HD; have hk1 := blk_cell HP.out.box 1; change _ = some (Value.string t) at hk1) | ((with_reducible refine gate_store (t := 3) (p := 27) rfl ?_); refine store_event rfl rfl rfl (store_cellR _ HP.out.box 0 3 (.int .i64 2) (.tmp 27) (.const (.int .i64 2)) rfl rfl rfl (by kernel_rfl) (show 0 < 4 by decide) rfl) ?_; intro w8 hw8; have n0_ := Aside0.mk (show RB w w8 (w.heap.size + 1) (rR 2 t false false) from by rw [hw8]; exact RB.put HP.out 0 _ _ rfl); clear hw8 HP hk1; have HP := n0_; clear n0_; have hk1 := blk_cell HP.out.box 1; change _ = some (Value.string t) at hk1) | ((with_reducible refine gate_dst (N := 68) rfl ?_); refine wpList_load_row rfl 24 (.tmp 4) rfl _ rfl 24 (rR 2 t false false) (0, 0) _ HP.out.box hu1 rfl (by kernel_rfl) ?_) | (go_at_call 40; (with_reducible refine (hck _).mono ?_); rintro e w4 ⟨rfl, hb⟩; clear hk1; have n0_ := Aside0.mk (RB.step HP.out hb); clear HP hb; have HP := n0_; clear n0_) | ((with_reducible refine gate_store (t := 24) (p := 2) rfl ?_); refine wpList_store_rowTo rfl 24 (.tmp 2) (.tmp 72) rfl rfl w.heap.size zR rfl rfl 24 zR HP.out.res (by kernel_rfl) rfl (rR_one _ _ _ _) ?_))
  refine bodyPost_ret (results_ct rfl _ _ w.heap.size 24 zR (0, 0) _ rfl (setRow_heap _ _ zR _ 24 (0, 0) HP.out.res) hu1 rfl (by kernel_rfl)) rfl ?_
  exact ⟨rfl, below_setRow HP.out.below (Nat.le_refl _) _⟩
set_option maxHeartbeats 8000000 in
set_option maxRecDepth 100000 in
theorem rparse_2_no_no (a0 : ByteArray) (w : World) (hs : a0.size < 1000000) (hb0 : 0 < a0.size) (hb1 : 1 < a0.size) (hc0 : ((a0[0]'hb0).toNat : Int) = 45) (hc1 : ((a0[1]'hb1).toNat : Int) = 32)
  (t : ByteArray) (ht : a0.extract 2 a0.size = t) (hte : 0 < t.size) (ht0 : ¬ ((t[0]'hte).toNat : Int) = 47) (m : Nat) (hm : wrap64 ((t.size : Int) - 1) = (m : Int)) (hml : m < t.size) (hpl : ¬ ((t[m]'hml).toNat : Int) = 47) (er : Int)
  (hck : ∀ w, Calls Tryd.prog 40 #[.agg (rR 2 t false false)] w fun e w' => e = .returned (.int .i64 er) ∧ Below w.heap.size w w') :
  Calls Tryd.prog 12 #[.string a0] w fun e w' => e = .returned (if er = 0 then .tuple #[.agg (rR 2 t false false), .int .i64 0] else .tuple #[.agg zR, .int .i64 er]) ∧ Below w.heap.size w w' := by
 have hu1 := Tryd.underlying24
 have HD := Aside0.mk (B1.start 24 w zR)
 have l1 : ((a0.size : Int) < 2) = False := eq_false (by omega)
 have l2 : (a0.size < 2) = False := eq_false (by omega)
 have l3 : ((0 : Int) < (a0.size : Int)) = True := eq_true (by omega)
 have l4 : (0 < a0.size) = True := eq_true hb0
 have l5 : ((1 : Int) < (a0.size : Int)) = True := eq_true (by omega)
 have l6 : (1 < a0.size) = True := eq_true hb1
 have l7 : ((2 : Int) ≤ (a0.size : Int)) = True := eq_true (by omega)
 have l8 : (2 ≤ a0.size) = True := eq_true hb1
 have f1 : (t.toList == []) = false := tl_ne t hte
 have f2 : (0 < t.size) = True := eq_true hte
 have f3 : ((0 : Int) < (t.size : Int)) = True := eq_true (by omega)
 have f4 : (((t[0]'hte).toNat : Int) == 47) = false := beq_eq_false_iff_ne.2 ht0
 have g2 : (m < t.size) = True := eq_true hml
 have g3 : ((m : Int) < (t.size : Int)) = True := eq_true (by omega)
 have g5 : (m ≤ t.size) = True := eq_true (Nat.le_of_lt hml)
 have g6 : ((m : Int) ≤ (t.size : Int)) = True := eq_true (by omega)
 have g4 : (((t[m]'hml).toNat : Int) == 47) = false := beq_eq_false_iff_ne.2 hpl
 have g0 : (0 < t.size) = True := eq_true hte
 have g1 : ((0 : Int) < (t.size : Int)) = True := eq_true (by omega)
 by_cases hz : er = 0
 ·subst hz
  rw [if_pos rfl]
  go_enter Tryd.func12, Tryd.ntmps12
  go_wp2_with (first | ((with_reducible refine gate_store (t := 24) (p := 4) rfl ?_); refine store_event rfl rfl rfl (store_runR _ _ 24 zR (rR 0 t false false) (RB.of0 w).box (.tmp 4) (.tmp 18) rfl rfl rfl (by kernel_rfl) rfl (rR_one _ _ _ _)) ?_; intro w8 hw8; have HP := Aside0.mk (show RB w w8 (w.heap.size + 1) (rR 0 t false false) from by rw [hw8]; exact RB.row_ (RB.of0 w) (rR 0 t false false)); clear hw8 HD; have hk1 := blk_cell HP.out.box 1; change _ = some (Value.string t) at hk1) | ((with_reducible refine gate_store (t := 3) (p := 27) rfl ?_); refine store_event rfl rfl rfl (store_cellR _ HP.out.box 0 3 (.int .i64 2) (.tmp 27) (.const (.int .i64 2)) rfl rfl rfl (by kernel_rfl) (show 0 < 4 by decide) rfl) ?_; intro w8 hw8; have n0_ := Aside0.mk (show RB w w8 (w.heap.size + 1) (rR 2 t false false) from by rw [hw8]; exact RB.put HP.out 0 _ _ rfl); clear hw8 HP hk1; have HP := n0_; clear n0_; have hk1 := blk_cell HP.out.box 1; change _ = some (Value.string t) at hk1) | ((with_reducible refine gate_dst (N := 68) rfl ?_); refine wpList_load_row rfl 24 (.tmp 4) rfl _ rfl 24 (rR 2 t false false) (0, 0) _ HP.out.box hu1 rfl (by kernel_rfl) ?_) | (go_at_call 40; (with_reducible refine (hck _).mono ?_); rintro e w4 ⟨rfl, hb⟩; clear hk1; have n0_ := Aside0.mk (RB.step HP.out hb); clear HP hb; have HP := n0_; clear n0_) | ((with_reducible refine gate_dst (N := 74) rfl ?_); refine wpList_load_row rfl 24 (.tmp 4) rfl _ rfl 24 (rR 2 t false false) (0, 0) _ HP.out.box hu1 rfl (by kernel_rfl) ?_) | ((with_reducible refine gate_store (t := 24) (p := 2) rfl ?_); refine wpList_store_rowTo rfl 24 (.tmp 2) (.tmp 74) rfl rfl w.heap.size (rR 2 t false false) rfl rfl 24 zR HP.out.res (by kernel_rfl) rfl (rR_one _ _ _ _) ?_))
  refine bodyPost_ret (results_ct rfl _ _ w.heap.size 24 (rR 2 t false false) (0, 0) _ rfl (setRow_heap _ _ zR _ 24 (0, 0) HP.out.res) hu1 rfl (by kernel_rfl)) rfl ?_
  exact ⟨rfl, below_setRow HP.out.below (Nat.le_refl _) _⟩
 ·rw [if_neg hz]
  have q1 : (er != 0) = true := bne_iff_ne.2 hz
  go_enter Tryd.func12, Tryd.ntmps12
  go_wp2_with (first | ((with_reducible refine gate_store (t := 24) (p := 4) rfl ?_); refine store_event rfl rfl rfl (store_runR _ _ 24 zR (rR 0 t false false) (RB.of0 w).box (.tmp 4) (.tmp 18) rfl rfl rfl (by kernel_rfl) rfl (rR_one _ _ _ _)) ?_; intro w8 hw8; have HP := Aside0.mk (show RB w w8 (w.heap.size + 1) (rR 0 t false false) from by rw [hw8]; exact RB.row_ (RB.of0 w) (rR 0 t false false)); clear hw8 HD; have hk1 := blk_cell HP.out.box 1; change _ = some (Value.string t) at hk1) | ((with_reducible refine gate_store (t := 3) (p := 27) rfl ?_); refine store_event rfl rfl rfl (store_cellR _ HP.out.box 0 3 (.int .i64 2) (.tmp 27) (.const (.int .i64 2)) rfl rfl rfl (by kernel_rfl) (show 0 < 4 by decide) rfl) ?_; intro w8 hw8; have n0_ := Aside0.mk (show RB w w8 (w.heap.size + 1) (rR 2 t false false) from by rw [hw8]; exact RB.put HP.out 0 _ _ rfl); clear hw8 HP hk1; have HP := n0_; clear n0_; have hk1 := blk_cell HP.out.box 1; change _ = some (Value.string t) at hk1) | ((with_reducible refine gate_dst (N := 68) rfl ?_); refine wpList_load_row rfl 24 (.tmp 4) rfl _ rfl 24 (rR 2 t false false) (0, 0) _ HP.out.box hu1 rfl (by kernel_rfl) ?_) | (go_at_call 40; (with_reducible refine (hck _).mono ?_); rintro e w4 ⟨rfl, hb⟩; clear hk1; have n0_ := Aside0.mk (RB.step HP.out hb); clear HP hb; have HP := n0_; clear n0_) | ((with_reducible refine gate_store (t := 24) (p := 2) rfl ?_); refine wpList_store_rowTo rfl 24 (.tmp 2) (.tmp 72) rfl rfl w.heap.size zR rfl rfl 24 zR HP.out.res (by kernel_rfl) rfl (rR_one _ _ _ _) ?_))
  refine bodyPost_ret (results_ct rfl _ _ w.heap.size 24 zR (0, 0) _ rfl (setRow_heap _ _ zR _ 24 (0, 0) HP.out.res) hu1 rfl (by kernel_rfl)) rfl ?_
  exact ⟨rfl, below_setRow HP.out.below (Nat.le_refl _) _⟩
set_option maxHeartbeats 8000000 in
set_option maxRecDepth 100000 in
theorem rparse_2_no_yes (a0 : ByteArray) (w : World) (hs : a0.size < 1000000) (hb0 : 0 < a0.size) (hb1 : 1 < a0.size) (hc0 : ((a0[0]'hb0).toNat : Int) = 45) (hc1 : ((a0[1]'hb1).toNat : Int) = 32)
  (t : ByteArray) (ht : a0.extract 2 a0.size = t) (hte : 0 < t.size) (ht0 : ¬ ((t[0]'hte).toNat : Int) = 47) (m : Nat) (hm : wrap64 ((t.size : Int) - 1) = (m : Int)) (hml : m < t.size) (hpl : ((t[m]'hml).toNat : Int) = 47) (p2 : ByteArray) (hp2 : t.extract 0 m = p2) (er : Int)
  (hck : ∀ w, Calls Tryd.prog 40 #[.agg (rR 2 p2 true false)] w fun e w' => e = .returned (.int .i64 er) ∧ Below w.heap.size w w') :
  Calls Tryd.prog 12 #[.string a0] w fun e w' => e = .returned (if er = 0 then .tuple #[.agg (rR 2 p2 true false), .int .i64 0] else .tuple #[.agg zR, .int .i64 er]) ∧ Below w.heap.size w w' := by
 have hu1 := Tryd.underlying24
 have HD := Aside0.mk (B1.start 24 w zR)
 have l1 : ((a0.size : Int) < 2) = False := eq_false (by omega)
 have l2 : (a0.size < 2) = False := eq_false (by omega)
 have l3 : ((0 : Int) < (a0.size : Int)) = True := eq_true (by omega)
 have l4 : (0 < a0.size) = True := eq_true hb0
 have l5 : ((1 : Int) < (a0.size : Int)) = True := eq_true (by omega)
 have l6 : (1 < a0.size) = True := eq_true hb1
 have l7 : ((2 : Int) ≤ (a0.size : Int)) = True := eq_true (by omega)
 have l8 : (2 ≤ a0.size) = True := eq_true hb1
 have f1 : (t.toList == []) = false := tl_ne t hte
 have f2 : (0 < t.size) = True := eq_true hte
 have f3 : ((0 : Int) < (t.size : Int)) = True := eq_true (by omega)
 have f4 : (((t[0]'hte).toNat : Int) == 47) = false := beq_eq_false_iff_ne.2 ht0
 have g2 : (m < t.size) = True := eq_true hml
 have g3 : ((m : Int) < (t.size : Int)) = True := eq_true (by omega)
 have g5 : (m ≤ t.size) = True := eq_true (Nat.le_of_lt hml)
 have g6 : ((m : Int) ≤ (t.size : Int)) = True := eq_true (by omega)
 have g0 : (0 < t.size) = True := eq_true hte
 have g1 : ((0 : Int) < (t.size : Int)) = True := eq_true (by omega)
 by_cases hz : er = 0
 ·subst hz
  rw [if_pos rfl]
  go_enter Tryd.func12, Tryd.ntmps12
  go_wp2_with (first | ((with_reducible refine gate_store (t := 24) (p := 4) rfl ?_); refine store_event rfl rfl rfl (store_runR _ _ 24 zR (rR 0 t false false) (RB.of0 w).box (.tmp 4) (.tmp 18) rfl rfl rfl (by kernel_rfl) rfl (rR_one _ _ _ _)) ?_; intro w8 hw8; have HP := Aside0.mk (show RB w w8 (w.heap.size + 1) (rR 0 t false false) from by rw [hw8]; exact RB.row_ (RB.of0 w) (rR 0 t false false)); clear hw8 HD; have hk1 := blk_cell HP.out.box 1; change _ = some (Value.string t) at hk1) | ((with_reducible refine gate_store (t := 3) (p := 27) rfl ?_); refine store_event rfl rfl rfl (store_cellR _ HP.out.box 0 3 (.int .i64 2) (.tmp 27) (.const (.int .i64 2)) rfl rfl rfl (by kernel_rfl) (show 0 < 4 by decide) rfl) ?_; intro w8 hw8; have n0_ := Aside0.mk (show RB w w8 (w.heap.size + 1) (rR 2 t false false) from by rw [hw8]; exact RB.put HP.out 0 _ _ rfl); clear hw8 HP hk1; have HP := n0_; clear n0_; have hk1 := blk_cell HP.out.box 1; change _ = some (Value.string t) at hk1) | ((with_reducible refine gate_store (t := 4) (p := 61) rfl ?_); refine store_event rfl rfl rfl (store_cellR _ HP.out.box 2 4 (.bool true) (.tmp 61) (.const (.bool true)) rfl rfl rfl (by kernel_rfl) (show 2 < 4 by decide) rfl) ?_; intro w8 hw8; have n0_ := Aside0.mk (show RB w w8 (w.heap.size + 1) (rR 2 t true false) from by rw [hw8]; exact RB.put HP.out 2 _ _ rfl); clear hw8 HP hk1; have HP := n0_; clear n0_; have hk1 := blk_cell HP.out.box 1; change _ = some (Value.string t) at hk1) | ((with_reducible refine gate_store (t := 9) (p := 67) rfl ?_); refine store_event rfl rfl rfl (store_cellR _ HP.out.box 1 9 (.string p2) (.tmp 67) (.tmp 66) rfl rfl rfl (by kernel_rfl) (show 1 < 4 by decide) rfl) ?_; intro w8 hw8; have n0_ := Aside0.mk (show RB w w8 (w.heap.size + 1) (rR 2 p2 true false) from by rw [hw8]; exact RB.put HP.out 1 _ _ rfl); clear hw8 HP hk1; have HP := n0_; clear n0_; have hk1 := blk_cell HP.out.box 1; change _ = some (Value.string p2) at hk1) | ((with_reducible refine gate_dst (N := 68) rfl ?_); refine wpList_load_row rfl 24 (.tmp 4) rfl _ rfl 24 (rR 2 p2 true false) (0, 0) _ HP.out.box hu1 rfl (by kernel_rfl) ?_) | (go_at_call 40; (with_reducible refine (hck _).mono ?_); rintro e w4 ⟨rfl, hb⟩; clear hk1; have n0_ := Aside0.mk (RB.step HP.out hb); clear HP hb; have HP := n0_; clear n0_) | ((with_reducible refine gate_dst (N := 74) rfl ?_); refine wpList_load_row rfl 24 (.tmp 4) rfl _ rfl 24 (rR 2 p2 true false) (0, 0) _ HP.out.box hu1 rfl (by kernel_rfl) ?_) | ((with_reducible refine gate_store (t := 24) (p := 2) rfl ?_); refine wpList_store_rowTo rfl 24 (.tmp 2) (.tmp 74) rfl rfl w.heap.size (rR 2 p2 true false) rfl rfl 24 zR HP.out.res (by kernel_rfl) rfl (rR_one _ _ _ _) ?_))
  refine bodyPost_ret (results_ct rfl _ _ w.heap.size 24 (rR 2 p2 true false) (0, 0) _ rfl (setRow_heap _ _ zR _ 24 (0, 0) HP.out.res) hu1 rfl (by kernel_rfl)) rfl ?_
  exact ⟨rfl, below_setRow HP.out.below (Nat.le_refl _) _⟩
 ·rw [if_neg hz]
  have q1 : (er != 0) = true := bne_iff_ne.2 hz
  go_enter Tryd.func12, Tryd.ntmps12
  go_wp2_with (first | ((with_reducible refine gate_store (t := 24) (p := 4) rfl ?_); refine store_event rfl rfl rfl (store_runR _ _ 24 zR (rR 0 t false false) (RB.of0 w).box (.tmp 4) (.tmp 18) rfl rfl rfl (by kernel_rfl) rfl (rR_one _ _ _ _)) ?_; intro w8 hw8; have HP := Aside0.mk (show RB w w8 (w.heap.size + 1) (rR 0 t false false) from by rw [hw8]; exact RB.row_ (RB.of0 w) (rR 0 t false false)); clear hw8 HD; have hk1 := blk_cell HP.out.box 1; change _ = some (Value.string t) at hk1) | ((with_reducible refine gate_store (t := 3) (p := 27) rfl ?_); refine store_event rfl rfl rfl (store_cellR _ HP.out.box 0 3 (.int .i64 2) (.tmp 27) (.const (.int .i64 2)) rfl rfl rfl (by kernel_rfl) (show 0 < 4 by decide) rfl) ?_; intro w8 hw8; have n0_ := Aside0.mk (show RB w w8 (w.heap.size + 1) (rR 2 t false false) from by rw [hw8]; exact RB.put HP.out 0 _ _ rfl); clear hw8 HP hk1; have HP := n0_; clear n0_; have hk1 := blk_cell HP.out.box 1; change _ = some (Value.string t) at hk1) | ((with_reducible refine gate_store (t := 4) (p := 61) rfl ?_); refine store_event rfl rfl rfl (store_cellR _ HP.out.box 2 4 (.bool true) (.tmp 61) (.const (.bool true)) rfl rfl rfl (by kernel_rfl) (show 2 < 4 by decide) rfl) ?_; intro w8 hw8; have n0_ := Aside0.mk (show RB w w8 (w.heap.size + 1) (rR 2 t true false) from by rw [hw8]; exact RB.put HP.out 2 _ _ rfl); clear hw8 HP hk1; have HP := n0_; clear n0_; have hk1 := blk_cell HP.out.box 1; change _ = some (Value.string t) at hk1) | ((with_reducible refine gate_store (t := 9) (p := 67) rfl ?_); refine store_event rfl rfl rfl (store_cellR _ HP.out.box 1 9 (.string p2) (.tmp 67) (.tmp 66) rfl rfl rfl (by kernel_rfl) (show 1 < 4 by decide) rfl) ?_; intro w8 hw8; have n0_ := Aside0.mk (show RB w w8 (w.heap.size + 1) (rR 2 p2 true false) from by rw [hw8]; exact RB.put HP.out 1 _ _ rfl); clear hw8 HP hk1; have HP := n0_; clear n0_; have hk1 := blk_cell HP.out.box 1; change _ = some (Value.string p2) at hk1) | ((with_reducible refine gate_dst (N := 68) rfl ?_); refine wpList_load_row rfl 24 (.tmp 4) rfl _ rfl 24 (rR 2 p2 true false) (0, 0) _ HP.out.box hu1 rfl (by kernel_rfl) ?_) | (go_at_call 40; (with_reducible refine (hck _).mono ?_); rintro e w4 ⟨rfl, hb⟩; clear hk1; have n0_ := Aside0.mk (RB.step HP.out hb); clear HP hb; have HP := n0_; clear n0_) | ((with_reducible refine gate_store (t := 24) (p := 2) rfl ?_); refine wpList_store_rowTo rfl 24 (.tmp 2) (.tmp 72) rfl rfl w.heap.size zR rfl rfl 24 zR HP.out.res (by kernel_rfl) rfl (rR_one _ _ _ _) ?_))
  refine bodyPost_ret (results_ct rfl _ _ w.heap.size 24 zR (0, 0) _ rfl (setRow_heap _ _ zR _ 24 (0, 0) HP.out.res) hu1 rfl (by kernel_rfl)) rfl ?_
  exact ⟨rfl, below_setRow HP.out.below (Nat.le_refl _) _⟩
set_option maxHeartbeats 8000000 in
set_option maxRecDepth 100000 in
theorem rparse_2_yes_empty (a0 : ByteArray) (w : World) (hs : a0.size < 1000000) (hb0 : 0 < a0.size) (hb1 : 1 < a0.size) (hc0 : ((a0[0]'hb0).toNat : Int) = 45) (hc1 : ((a0[1]'hb1).toNat : Int) = 32)
  (t : ByteArray) (ht : a0.extract 2 a0.size = t) (hte : 0 < t.size) (ht0 : ((t[0]'hte).toNat : Int) = 47) (p1 : ByteArray) (hp1 : t.extract 1 t.size = p1) (hpe : p1.size = 0) (er : Int)
  (hck : ∀ w, Calls Tryd.prog 40 #[.agg (rR 2 p1 false true)] w fun e w' => e = .returned (.int .i64 er) ∧ Below w.heap.size w w') :
  Calls Tryd.prog 12 #[.string a0] w fun e w' => e = .returned (if er = 0 then .tuple #[.agg (rR 2 p1 false true), .int .i64 0] else .tuple #[.agg zR, .int .i64 er]) ∧ Below w.heap.size w w' := by
 have hu1 := Tryd.underlying24
 have HD := Aside0.mk (B1.start 24 w zR)
 have l1 : ((a0.size : Int) < 2) = False := eq_false (by omega)
 have l2 : (a0.size < 2) = False := eq_false (by omega)
 have l3 : ((0 : Int) < (a0.size : Int)) = True := eq_true (by omega)
 have l4 : (0 < a0.size) = True := eq_true hb0
 have l5 : ((1 : Int) < (a0.size : Int)) = True := eq_true (by omega)
 have l6 : (1 < a0.size) = True := eq_true hb1
 have l7 : ((2 : Int) ≤ (a0.size : Int)) = True := eq_true (by omega)
 have l8 : (2 ≤ a0.size) = True := eq_true hb1
 have f1 : (t.toList == []) = false := tl_ne t hte
 have f2 : (0 < t.size) = True := eq_true hte
 have f3 : ((0 : Int) < (t.size : Int)) = True := eq_true (by omega)
 have f5 : ((1 : Int) ≤ (t.size : Int)) = True := eq_true (by omega)
 have f6 : (1 ≤ t.size) = True := eq_true hte
 have g1 : (p1.size : Int) = 0 := by omega
 by_cases hz : er = 0
 ·subst hz
  rw [if_pos rfl]
  go_enter Tryd.func12, Tryd.ntmps12
  go_wp2_with (first | ((with_reducible refine gate_store (t := 24) (p := 4) rfl ?_); refine store_event rfl rfl rfl (store_runR _ _ 24 zR (rR 0 t false false) (RB.of0 w).box (.tmp 4) (.tmp 18) rfl rfl rfl (by kernel_rfl) rfl (rR_one _ _ _ _)) ?_; intro w8 hw8; have HP := Aside0.mk (show RB w w8 (w.heap.size + 1) (rR 0 t false false) from by rw [hw8]; exact RB.row_ (RB.of0 w) (rR 0 t false false)); clear hw8 HD; have hk1 := blk_cell HP.out.box 1; change _ = some (Value.string t) at hk1) | ((with_reducible refine gate_store (t := 3) (p := 27) rfl ?_); refine store_event rfl rfl rfl (store_cellR _ HP.out.box 0 3 (.int .i64 2) (.tmp 27) (.const (.int .i64 2)) rfl rfl rfl (by kernel_rfl) (show 0 < 4 by decide) rfl) ?_; intro w8 hw8; have n0_ := Aside0.mk (show RB w w8 (w.heap.size + 1) (rR 2 t false false) from by rw [hw8]; exact RB.put HP.out 0 _ _ rfl); clear hw8 HP hk1; have HP := n0_; clear n0_; have hk1 := blk_cell HP.out.box 1; change _ = some (Value.string t) at hk1) | ((with_reducible refine gate_store (t := 4) (p := 43) rfl ?_); refine store_event rfl rfl rfl (store_cellR _ HP.out.box 3 4 (.bool true) (.tmp 43) (.const (.bool true)) rfl rfl rfl (by kernel_rfl) (show 3 < 4 by decide) rfl) ?_; intro w8 hw8; have n0_ := Aside0.mk (show RB w w8 (w.heap.size + 1) (rR 2 t false true) from by rw [hw8]; exact RB.put HP.out 3 _ _ rfl); clear hw8 HP hk1; have HP := n0_; clear n0_; have hk1 := blk_cell HP.out.box 1; change _ = some (Value.string t) at hk1) | ((with_reducible refine gate_store (t := 9) (p := 47) rfl ?_); refine store_event rfl rfl rfl (store_cellR _ HP.out.box 1 9 (.string p1) (.tmp 47) (.tmp 46) rfl rfl rfl (by kernel_rfl) (show 1 < 4 by decide) rfl) ?_; intro w8 hw8; have n0_ := Aside0.mk (show RB w w8 (w.heap.size + 1) (rR 2 p1 false true) from by rw [hw8]; exact RB.put HP.out 1 _ _ rfl); clear hw8 HP hk1; have HP := n0_; clear n0_; have hk1 := blk_cell HP.out.box 1; change _ = some (Value.string p1) at hk1) | ((with_reducible refine gate_dst (N := 68) rfl ?_); refine wpList_load_row rfl 24 (.tmp 4) rfl _ rfl 24 (rR 2 p1 false true) (0, 0) _ HP.out.box hu1 rfl (by kernel_rfl) ?_) | (go_at_call 40; (with_reducible refine (hck _).mono ?_); rintro e w4 ⟨rfl, hb⟩; clear hk1; have n0_ := Aside0.mk (RB.step HP.out hb); clear HP hb; have HP := n0_; clear n0_) | ((with_reducible refine gate_dst (N := 74) rfl ?_); refine wpList_load_row rfl 24 (.tmp 4) rfl _ rfl 24 (rR 2 p1 false true) (0, 0) _ HP.out.box hu1 rfl (by kernel_rfl) ?_) | ((with_reducible refine gate_store (t := 24) (p := 2) rfl ?_); refine wpList_store_rowTo rfl 24 (.tmp 2) (.tmp 74) rfl rfl w.heap.size (rR 2 p1 false true) rfl rfl 24 zR HP.out.res (by kernel_rfl) rfl (rR_one _ _ _ _) ?_))
  refine bodyPost_ret (results_ct rfl _ _ w.heap.size 24 (rR 2 p1 false true) (0, 0) _ rfl (setRow_heap _ _ zR _ 24 (0, 0) HP.out.res) hu1 rfl (by kernel_rfl)) rfl ?_
  exact ⟨rfl, below_setRow HP.out.below (Nat.le_refl _) _⟩
 ·rw [if_neg hz]
  have q1 : (er != 0) = true := bne_iff_ne.2 hz
  go_enter Tryd.func12, Tryd.ntmps12
  go_wp2_with (first | ((with_reducible refine gate_store (t := 24) (p := 4) rfl ?_); refine store_event rfl rfl rfl (store_runR _ _ 24 zR (rR 0 t false false) (RB.of0 w).box (.tmp 4) (.tmp 18) rfl rfl rfl (by kernel_rfl) rfl (rR_one _ _ _ _)) ?_; intro w8 hw8; have HP := Aside0.mk (show RB w w8 (w.heap.size + 1) (rR 0 t false false) from by rw [hw8]; exact RB.row_ (RB.of0 w) (rR 0 t false false)); clear hw8 HD; have hk1 := blk_cell HP.out.box 1; change _ = some (Value.string t) at hk1) | ((with_reducible refine gate_store (t := 3) (p := 27) rfl ?_); refine store_event rfl rfl rfl (store_cellR _ HP.out.box 0 3 (.int .i64 2) (.tmp 27) (.const (.int .i64 2)) rfl rfl rfl (by kernel_rfl) (show 0 < 4 by decide) rfl) ?_; intro w8 hw8; have n0_ := Aside0.mk (show RB w w8 (w.heap.size + 1) (rR 2 t false false) from by rw [hw8]; exact RB.put HP.out 0 _ _ rfl); clear hw8 HP hk1; have HP := n0_; clear n0_; have hk1 := blk_cell HP.out.box 1; change _ = some (Value.string t) at hk1) | ((with_reducible refine gate_store (t := 4) (p := 43) rfl ?_); refine store_event rfl rfl rfl (store_cellR _ HP.out.box 3 4 (.bool true) (.tmp 43) (.const (.bool true)) rfl rfl rfl (by kernel_rfl) (show 3 < 4 by decide) rfl) ?_; intro w8 hw8; have n0_ := Aside0.mk (show RB w w8 (w.heap.size + 1) (rR 2 t false true) from by rw [hw8]; exact RB.put HP.out 3 _ _ rfl); clear hw8 HP hk1; have HP := n0_; clear n0_; have hk1 := blk_cell HP.out.box 1; change _ = some (Value.string t) at hk1) | ((with_reducible refine gate_store (t := 9) (p := 47) rfl ?_); refine store_event rfl rfl rfl (store_cellR _ HP.out.box 1 9 (.string p1) (.tmp 47) (.tmp 46) rfl rfl rfl (by kernel_rfl) (show 1 < 4 by decide) rfl) ?_; intro w8 hw8; have n0_ := Aside0.mk (show RB w w8 (w.heap.size + 1) (rR 2 p1 false true) from by rw [hw8]; exact RB.put HP.out 1 _ _ rfl); clear hw8 HP hk1; have HP := n0_; clear n0_; have hk1 := blk_cell HP.out.box 1; change _ = some (Value.string p1) at hk1) | ((with_reducible refine gate_dst (N := 68) rfl ?_); refine wpList_load_row rfl 24 (.tmp 4) rfl _ rfl 24 (rR 2 p1 false true) (0, 0) _ HP.out.box hu1 rfl (by kernel_rfl) ?_) | (go_at_call 40; (with_reducible refine (hck _).mono ?_); rintro e w4 ⟨rfl, hb⟩; clear hk1; have n0_ := Aside0.mk (RB.step HP.out hb); clear HP hb; have HP := n0_; clear n0_) | ((with_reducible refine gate_store (t := 24) (p := 2) rfl ?_); refine wpList_store_rowTo rfl 24 (.tmp 2) (.tmp 72) rfl rfl w.heap.size zR rfl rfl 24 zR HP.out.res (by kernel_rfl) rfl (rR_one _ _ _ _) ?_))
  refine bodyPost_ret (results_ct rfl _ _ w.heap.size 24 zR (0, 0) _ rfl (setRow_heap _ _ zR _ 24 (0, 0) HP.out.res) hu1 rfl (by kernel_rfl)) rfl ?_
  exact ⟨rfl, below_setRow HP.out.below (Nat.le_refl _) _⟩
set_option maxHeartbeats 8000000 in
set_option maxRecDepth 100000 in
theorem rparse_2_yes_no (a0 : ByteArray) (w : World) (hs : a0.size < 1000000) (hb0 : 0 < a0.size) (hb1 : 1 < a0.size) (hc0 : ((a0[0]'hb0).toNat : Int) = 45) (hc1 : ((a0[1]'hb1).toNat : Int) = 32)
  (t : ByteArray) (ht : a0.extract 2 a0.size = t) (hte : 0 < t.size) (ht0 : ((t[0]'hte).toNat : Int) = 47) (p1 : ByteArray) (hp1 : t.extract 1 t.size = p1) (hpe : 0 < p1.size) (m : Nat) (hm : wrap64 ((p1.size : Int) - 1) = (m : Int)) (hml : m < p1.size) (hpl : ¬ ((p1[m]'hml).toNat : Int) = 47) (er : Int)
  (hck : ∀ w, Calls Tryd.prog 40 #[.agg (rR 2 p1 false true)] w fun e w' => e = .returned (.int .i64 er) ∧ Below w.heap.size w w') :
  Calls Tryd.prog 12 #[.string a0] w fun e w' => e = .returned (if er = 0 then .tuple #[.agg (rR 2 p1 false true), .int .i64 0] else .tuple #[.agg zR, .int .i64 er]) ∧ Below w.heap.size w w' := by
 have hu1 := Tryd.underlying24
 have HD := Aside0.mk (B1.start 24 w zR)
 have l1 : ((a0.size : Int) < 2) = False := eq_false (by omega)
 have l2 : (a0.size < 2) = False := eq_false (by omega)
 have l3 : ((0 : Int) < (a0.size : Int)) = True := eq_true (by omega)
 have l4 : (0 < a0.size) = True := eq_true hb0
 have l5 : ((1 : Int) < (a0.size : Int)) = True := eq_true (by omega)
 have l6 : (1 < a0.size) = True := eq_true hb1
 have l7 : ((2 : Int) ≤ (a0.size : Int)) = True := eq_true (by omega)
 have l8 : (2 ≤ a0.size) = True := eq_true hb1
 have f1 : (t.toList == []) = false := tl_ne t hte
 have f2 : (0 < t.size) = True := eq_true hte
 have f3 : ((0 : Int) < (t.size : Int)) = True := eq_true (by omega)
 have f5 : ((1 : Int) ≤ (t.size : Int)) = True := eq_true (by omega)
 have f6 : (1 ≤ t.size) = True := eq_true hte
 have g2 : (m < p1.size) = True := eq_true hml
 have g3 : ((m : Int) < (p1.size : Int)) = True := eq_true (by omega)
 have g5 : (m ≤ p1.size) = True := eq_true (Nat.le_of_lt hml)
 have g6 : ((m : Int) ≤ (p1.size : Int)) = True := eq_true (by omega)
 have g4 : (((p1[m]'hml).toNat : Int) == 47) = false := beq_eq_false_iff_ne.2 hpl
 have g0 : (0 < p1.size) = True := eq_true hpe
 have g1 : ((0 : Int) < (p1.size : Int)) = True := eq_true (by omega)
 by_cases hz : er = 0
 ·subst hz
  rw [if_pos rfl]
  go_enter Tryd.func12, Tryd.ntmps12
  go_wp2_with (first | ((with_reducible refine gate_store (t := 24) (p := 4) rfl ?_); refine store_event rfl rfl rfl (store_runR _ _ 24 zR (rR 0 t false false) (RB.of0 w).box (.tmp 4) (.tmp 18) rfl rfl rfl (by kernel_rfl) rfl (rR_one _ _ _ _)) ?_; intro w8 hw8; have HP := Aside0.mk (show RB w w8 (w.heap.size + 1) (rR 0 t false false) from by rw [hw8]; exact RB.row_ (RB.of0 w) (rR 0 t false false)); clear hw8 HD; have hk1 := blk_cell HP.out.box 1; change _ = some (Value.string t) at hk1) | ((with_reducible refine gate_store (t := 3) (p := 27) rfl ?_); refine store_event rfl rfl rfl (store_cellR _ HP.out.box 0 3 (.int .i64 2) (.tmp 27) (.const (.int .i64 2)) rfl rfl rfl (by kernel_rfl) (show 0 < 4 by decide) rfl) ?_; intro w8 hw8; have n0_ := Aside0.mk (show RB w w8 (w.heap.size + 1) (rR 2 t false false) from by rw [hw8]; exact RB.put HP.out 0 _ _ rfl); clear hw8 HP hk1; have HP := n0_; clear n0_; have hk1 := blk_cell HP.out.box 1; change _ = some (Value.string t) at hk1) | ((with_reducible refine gate_store (t := 4) (p := 43) rfl ?_); refine store_event rfl rfl rfl (store_cellR _ HP.out.box 3 4 (.bool true) (.tmp 43) (.const (.bool true)) rfl rfl rfl (by kernel_rfl) (show 3 < 4 by decide) rfl) ?_; intro w8 hw8; have n0_ := Aside0.mk (show RB w w8 (w.heap.size + 1) (rR 2 t false true) from by rw [hw8]; exact RB.put HP.out 3 _ _ rfl); clear hw8 HP hk1; have HP := n0_; clear n0_; have hk1 := blk_cell HP.out.box 1; change _ = some (Value.string t) at hk1) | ((with_reducible refine gate_store (t := 9) (p := 47) rfl ?_); refine store_event rfl rfl rfl (store_cellR _ HP.out.box 1 9 (.string p1) (.tmp 47) (.tmp 46) rfl rfl rfl (by kernel_rfl) (show 1 < 4 by decide) rfl) ?_; intro w8 hw8; have n0_ := Aside0.mk (show RB w w8 (w.heap.size + 1) (rR 2 p1 false true) from by rw [hw8]; exact RB.put HP.out 1 _ _ rfl); clear hw8 HP hk1; have HP := n0_; clear n0_; have hk1 := blk_cell HP.out.box 1; change _ = some (Value.string p1) at hk1) | ((with_reducible refine gate_dst (N := 68) rfl ?_); refine wpList_load_row rfl 24 (.tmp 4) rfl _ rfl 24 (rR 2 p1 false true) (0, 0) _ HP.out.box hu1 rfl (by kernel_rfl) ?_) | (go_at_call 40; (with_reducible refine (hck _).mono ?_); rintro e w4 ⟨rfl, hb⟩; clear hk1; have n0_ := Aside0.mk (RB.step HP.out hb); clear HP hb; have HP := n0_; clear n0_) | ((with_reducible refine gate_dst (N := 74) rfl ?_); refine wpList_load_row rfl 24 (.tmp 4) rfl _ rfl 24 (rR 2 p1 false true) (0, 0) _ HP.out.box hu1 rfl (by kernel_rfl) ?_) | ((with_reducible refine gate_store (t := 24) (p := 2) rfl ?_); refine wpList_store_rowTo rfl 24 (.tmp 2) (.tmp 74) rfl rfl w.heap.size (rR 2 p1 false true) rfl rfl 24 zR HP.out.res (by kernel_rfl) rfl (rR_one _ _ _ _) ?_))
  refine bodyPost_ret (results_ct rfl _ _ w.heap.size 24 (rR 2 p1 false true) (0, 0) _ rfl (setRow_heap _ _ zR _ 24 (0, 0) HP.out.res) hu1 rfl (by kernel_rfl)) rfl ?_
  exact ⟨rfl, below_setRow HP.out.below (Nat.le_refl _) _⟩
 ·rw [if_neg hz]
  have q1 : (er != 0) = true := bne_iff_ne.2 hz
  go_enter Tryd.func12, Tryd.ntmps12
  go_wp2_with (first | ((with_reducible refine gate_store (t := 24) (p := 4) rfl ?_); refine store_event rfl rfl rfl (store_runR _ _ 24 zR (rR 0 t false false) (RB.of0 w).box (.tmp 4) (.tmp 18) rfl rfl rfl (by kernel_rfl) rfl (rR_one _ _ _ _)) ?_; intro w8 hw8; have HP := Aside0.mk (show RB w w8 (w.heap.size + 1) (rR 0 t false false) from by rw [hw8]; exact RB.row_ (RB.of0 w) (rR 0 t false false)); clear hw8 HD; have hk1 := blk_cell HP.out.box 1; change _ = some (Value.string t) at hk1) | ((with_reducible refine gate_store (t := 3) (p := 27) rfl ?_); refine store_event rfl rfl rfl (store_cellR _ HP.out.box 0 3 (.int .i64 2) (.tmp 27) (.const (.int .i64 2)) rfl rfl rfl (by kernel_rfl) (show 0 < 4 by decide) rfl) ?_; intro w8 hw8; have n0_ := Aside0.mk (show RB w w8 (w.heap.size + 1) (rR 2 t false false) from by rw [hw8]; exact RB.put HP.out 0 _ _ rfl); clear hw8 HP hk1; have HP := n0_; clear n0_; have hk1 := blk_cell HP.out.box 1; change _ = some (Value.string t) at hk1) | ((with_reducible refine gate_store (t := 4) (p := 43) rfl ?_); refine store_event rfl rfl rfl (store_cellR _ HP.out.box 3 4 (.bool true) (.tmp 43) (.const (.bool true)) rfl rfl rfl (by kernel_rfl) (show 3 < 4 by decide) rfl) ?_; intro w8 hw8; have n0_ := Aside0.mk (show RB w w8 (w.heap.size + 1) (rR 2 t false true) from by rw [hw8]; exact RB.put HP.out 3 _ _ rfl); clear hw8 HP hk1; have HP := n0_; clear n0_; have hk1 := blk_cell HP.out.box 1; change _ = some (Value.string t) at hk1) | ((with_reducible refine gate_store (t := 9) (p := 47) rfl ?_); refine store_event rfl rfl rfl (store_cellR _ HP.out.box 1 9 (.string p1) (.tmp 47) (.tmp 46) rfl rfl rfl (by kernel_rfl) (show 1 < 4 by decide) rfl) ?_; intro w8 hw8; have n0_ := Aside0.mk (show RB w w8 (w.heap.size + 1) (rR 2 p1 false true) from by rw [hw8]; exact RB.put HP.out 1 _ _ rfl); clear hw8 HP hk1; have HP := n0_; clear n0_; have hk1 := blk_cell HP.out.box 1; change _ = some (Value.string p1) at hk1) | ((with_reducible refine gate_dst (N := 68) rfl ?_); refine wpList_load_row rfl 24 (.tmp 4) rfl _ rfl 24 (rR 2 p1 false true) (0, 0) _ HP.out.box hu1 rfl (by kernel_rfl) ?_) | (go_at_call 40; (with_reducible refine (hck _).mono ?_); rintro e w4 ⟨rfl, hb⟩; clear hk1; have n0_ := Aside0.mk (RB.step HP.out hb); clear HP hb; have HP := n0_; clear n0_) | ((with_reducible refine gate_store (t := 24) (p := 2) rfl ?_); refine wpList_store_rowTo rfl 24 (.tmp 2) (.tmp 72) rfl rfl w.heap.size zR rfl rfl 24 zR HP.out.res (by kernel_rfl) rfl (rR_one _ _ _ _) ?_))
  refine bodyPost_ret (results_ct rfl _ _ w.heap.size 24 zR (0, 0) _ rfl (setRow_heap _ _ zR _ 24 (0, 0) HP.out.res) hu1 rfl (by kernel_rfl)) rfl ?_
  exact ⟨rfl, below_setRow HP.out.below (Nat.le_refl _) _⟩
set_option maxHeartbeats 8000000 in
set_option maxRecDepth 100000 in
theorem rparse_2_yes_yes (a0 : ByteArray) (w : World) (hs : a0.size < 1000000) (hb0 : 0 < a0.size) (hb1 : 1 < a0.size) (hc0 : ((a0[0]'hb0).toNat : Int) = 45) (hc1 : ((a0[1]'hb1).toNat : Int) = 32)
  (t : ByteArray) (ht : a0.extract 2 a0.size = t) (hte : 0 < t.size) (ht0 : ((t[0]'hte).toNat : Int) = 47) (p1 : ByteArray) (hp1 : t.extract 1 t.size = p1) (hpe : 0 < p1.size) (m : Nat) (hm : wrap64 ((p1.size : Int) - 1) = (m : Int)) (hml : m < p1.size) (hpl : ((p1[m]'hml).toNat : Int) = 47) (p2 : ByteArray) (hp2 : p1.extract 0 m = p2) (er : Int)
  (hck : ∀ w, Calls Tryd.prog 40 #[.agg (rR 2 p2 true true)] w fun e w' => e = .returned (.int .i64 er) ∧ Below w.heap.size w w') :
  Calls Tryd.prog 12 #[.string a0] w fun e w' => e = .returned (if er = 0 then .tuple #[.agg (rR 2 p2 true true), .int .i64 0] else .tuple #[.agg zR, .int .i64 er]) ∧ Below w.heap.size w w' := by
 have hu1 := Tryd.underlying24
 have HD := Aside0.mk (B1.start 24 w zR)
 have l1 : ((a0.size : Int) < 2) = False := eq_false (by omega)
 have l2 : (a0.size < 2) = False := eq_false (by omega)
 have l3 : ((0 : Int) < (a0.size : Int)) = True := eq_true (by omega)
 have l4 : (0 < a0.size) = True := eq_true hb0
 have l5 : ((1 : Int) < (a0.size : Int)) = True := eq_true (by omega)
 have l6 : (1 < a0.size) = True := eq_true hb1
 have l7 : ((2 : Int) ≤ (a0.size : Int)) = True := eq_true (by omega)
 have l8 : (2 ≤ a0.size) = True := eq_true hb1
 have f1 : (t.toList == []) = false := tl_ne t hte
 have f2 : (0 < t.size) = True := eq_true hte
 have f3 : ((0 : Int) < (t.size : Int)) = True := eq_true (by omega)
 have f5 : ((1 : Int) ≤ (t.size : Int)) = True := eq_true (by omega)
 have f6 : (1 ≤ t.size) = True := eq_true hte
 have g2 : (m < p1.size) = True := eq_true hml
 have g3 : ((m : Int) < (p1.size : Int)) = True := eq_true (by omega)
 have g5 : (m ≤ p1.size) = True := eq_true (Nat.le_of_lt hml)
 have g6 : ((m : Int) ≤ (p1.size : Int)) = True := eq_true (by omega)
 have g0 : (0 < p1.size) = True := eq_true hpe
 have g1 : ((0 : Int) < (p1.size : Int)) = True := eq_true (by omega)
 by_cases hz : er = 0
 ·subst hz
  rw [if_pos rfl]
  go_enter Tryd.func12, Tryd.ntmps12
  go_wp2_with (first | ((with_reducible refine gate_store (t := 24) (p := 4) rfl ?_); refine store_event rfl rfl rfl (store_runR _ _ 24 zR (rR 0 t false false) (RB.of0 w).box (.tmp 4) (.tmp 18) rfl rfl rfl (by kernel_rfl) rfl (rR_one _ _ _ _)) ?_; intro w8 hw8; have HP := Aside0.mk (show RB w w8 (w.heap.size + 1) (rR 0 t false false) from by rw [hw8]; exact RB.row_ (RB.of0 w) (rR 0 t false false)); clear hw8 HD; have hk1 := blk_cell HP.out.box 1; change _ = some (Value.string t) at hk1) | ((with_reducible refine gate_store (t := 3) (p := 27) rfl ?_); refine store_event rfl rfl rfl (store_cellR _ HP.out.box 0 3 (.int .i64 2) (.tmp 27) (.const (.int .i64 2)) rfl rfl rfl (by kernel_rfl) (show 0 < 4 by decide) rfl) ?_; intro w8 hw8; have n0_ := Aside0.mk (show RB w w8 (w.heap.size + 1) (rR 2 t false false) from by rw [hw8]; exact RB.put HP.out 0 _ _ rfl); clear hw8 HP hk1; have HP := n0_; clear n0_; have hk1 := blk_cell HP.out.box 1; change _ = some (Value.string t) at hk1) | ((with_reducible refine gate_store (t := 4) (p := 43) rfl ?_); refine store_event rfl rfl rfl (store_cellR _ HP.out.box 3 4 (.bool true) (.tmp 43) (.const (.bool true)) rfl rfl rfl (by kernel_rfl) (show 3 < 4 by decide) rfl) ?_; intro w8 hw8; have n0_ := Aside0.mk (show RB w w8 (w.heap.size + 1) (rR 2 t false true) from by rw [hw8]; exact RB.put HP.out 3 _ _ rfl); clear hw8 HP hk1; have HP := n0_; clear n0_; have hk1 := blk_cell HP.out.box 1; change _ = some (Value.string t) at hk1) | ((with_reducible refine gate_store (t := 9) (p := 47) rfl ?_); refine store_event rfl rfl rfl (store_cellR _ HP.out.box 1 9 (.string p1) (.tmp 47) (.tmp 46) rfl rfl rfl (by kernel_rfl) (show 1 < 4 by decide) rfl) ?_; intro w8 hw8; have n0_ := Aside0.mk (show RB w w8 (w.heap.size + 1) (rR 2 p1 false true) from by rw [hw8]; exact RB.put HP.out 1 _ _ rfl); clear hw8 HP hk1; have HP := n0_; clear n0_; have hk1 := blk_cell HP.out.box 1; change _ = some (Value.string p1) at hk1) | ((with_reducible refine gate_store (t := 4) (p := 61) rfl ?_); refine store_event rfl rfl rfl (store_cellR _ HP.out.box 2 4 (.bool true) (.tmp 61) (.const (.bool true)) rfl rfl rfl (by kernel_rfl) (show 2 < 4 by decide) rfl) ?_; intro w8 hw8; have n0_ := Aside0.mk (show RB w w8 (w.heap.size + 1) (rR 2 p1 true true) from by rw [hw8]; exact RB.put HP.out 2 _ _ rfl); clear hw8 HP hk1; have HP := n0_; clear n0_; have hk1 := blk_cell HP.out.box 1; change _ = some (Value.string p1) at hk1) | ((with_reducible refine gate_store (t := 9) (p := 67) rfl ?_); refine store_event rfl rfl rfl (store_cellR _ HP.out.box 1 9 (.string p2) (.tmp 67) (.tmp 66) rfl rfl rfl (by kernel_rfl) (show 1 < 4 by decide) rfl) ?_; intro w8 hw8; have n0_ := Aside0.mk (show RB w w8 (w.heap.size + 1) (rR 2 p2 true true) from by rw [hw8]; exact RB.put HP.out 1 _ _ rfl); clear hw8 HP hk1; have HP := n0_; clear n0_; have hk1 := blk_cell HP.out.box 1; change _ = some (Value.string p2) at hk1) | ((with_reducible refine gate_dst (N := 68) rfl ?_); refine wpList_load_row rfl 24 (.tmp 4) rfl _ rfl 24 (rR 2 p2 true true) (0, 0) _ HP.out.box hu1 rfl (by kernel_rfl) ?_) | (go_at_call 40; (with_reducible refine (hck _).mono ?_); rintro e w4 ⟨rfl, hb⟩; clear hk1; have n0_ := Aside0.mk (RB.step HP.out hb); clear HP hb; have HP := n0_; clear n0_) | ((with_reducible refine gate_dst (N := 74) rfl ?_); refine wpList_load_row rfl 24 (.tmp 4) rfl _ rfl 24 (rR 2 p2 true true) (0, 0) _ HP.out.box hu1 rfl (by kernel_rfl) ?_) | ((with_reducible refine gate_store (t := 24) (p := 2) rfl ?_); refine wpList_store_rowTo rfl 24 (.tmp 2) (.tmp 74) rfl rfl w.heap.size (rR 2 p2 true true) rfl rfl 24 zR HP.out.res (by kernel_rfl) rfl (rR_one _ _ _ _) ?_))
  refine bodyPost_ret (results_ct rfl _ _ w.heap.size 24 (rR 2 p2 true true) (0, 0) _ rfl (setRow_heap _ _ zR _ 24 (0, 0) HP.out.res) hu1 rfl (by kernel_rfl)) rfl ?_
  exact ⟨rfl, below_setRow HP.out.below (Nat.le_refl _) _⟩
 ·rw [if_neg hz]
  have q1 : (er != 0) = true := bne_iff_ne.2 hz
  go_enter Tryd.func12, Tryd.ntmps12
  go_wp2_with (first | ((with_reducible refine gate_store (t := 24) (p := 4) rfl ?_); refine store_event rfl rfl rfl (store_runR _ _ 24 zR (rR 0 t false false) (RB.of0 w).box (.tmp 4) (.tmp 18) rfl rfl rfl (by kernel_rfl) rfl (rR_one _ _ _ _)) ?_; intro w8 hw8; have HP := Aside0.mk (show RB w w8 (w.heap.size + 1) (rR 0 t false false) from by rw [hw8]; exact RB.row_ (RB.of0 w) (rR 0 t false false)); clear hw8 HD; have hk1 := blk_cell HP.out.box 1; change _ = some (Value.string t) at hk1) | ((with_reducible refine gate_store (t := 3) (p := 27) rfl ?_); refine store_event rfl rfl rfl (store_cellR _ HP.out.box 0 3 (.int .i64 2) (.tmp 27) (.const (.int .i64 2)) rfl rfl rfl (by kernel_rfl) (show 0 < 4 by decide) rfl) ?_; intro w8 hw8; have n0_ := Aside0.mk (show RB w w8 (w.heap.size + 1) (rR 2 t false false) from by rw [hw8]; exact RB.put HP.out 0 _ _ rfl); clear hw8 HP hk1; have HP := n0_; clear n0_; have hk1 := blk_cell HP.out.box 1; change _ = some (Value.string t) at hk1) | ((with_reducible refine gate_store (t := 4) (p := 43) rfl ?_); refine store_event rfl rfl rfl (store_cellR _ HP.out.box 3 4 (.bool true) (.tmp 43) (.const (.bool true)) rfl rfl rfl (by kernel_rfl) (show 3 < 4 by decide) rfl) ?_; intro w8 hw8; have n0_ := Aside0.mk (show RB w w8 (w.heap.size + 1) (rR 2 t false true) from by rw [hw8]; exact RB.put HP.out 3 _ _ rfl); clear hw8 HP hk1; have HP := n0_; clear n0_; have hk1 := blk_cell HP.out.box 1; change _ = some (Value.string t) at hk1) | ((with_reducible refine gate_store (t := 9) (p := 47) rfl ?_); refine store_event rfl rfl rfl (store_cellR _ HP.out.box 1 9 (.string p1) (.tmp 47) (.tmp 46) rfl rfl rfl (by kernel_rfl) (show 1 < 4 by decide) rfl) ?_; intro w8 hw8; have n0_ := Aside0.mk (show RB w w8 (w.heap.size + 1) (rR 2 p1 false true) from by rw [hw8]; exact RB.put HP.out 1 _ _ rfl); clear hw8 HP hk1; have HP := n0_; clear n0_; have hk1 := blk_cell HP.out.box 1; change _ = some (Value.string p1) at hk1) | ((with_reducible refine gate_store (t := 4) (p := 61) rfl ?_); refine store_event rfl rfl rfl (store_cellR _ HP.out.box 2 4 (.bool true) (.tmp 61) (.const (.bool true)) rfl rfl rfl (by kernel_rfl) (show 2 < 4 by decide) rfl) ?_; intro w8 hw8; have n0_ := Aside0.mk (show RB w w8 (w.heap.size + 1) (rR 2 p1 true true) from by rw [hw8]; exact RB.put HP.out 2 _ _ rfl); clear hw8 HP hk1; have HP := n0_; clear n0_; have hk1 := blk_cell HP.out.box 1; change _ = some (Value.string p1) at hk1) | ((with_reducible refine gate_store (t := 9) (p := 67) rfl ?_); refine store_event rfl rfl rfl (store_cellR _ HP.out.box 1 9 (.string p2) (.tmp 67) (.tmp 66) rfl rfl rfl (by kernel_rfl) (show 1 < 4 by decide) rfl) ?_; intro w8 hw8; have n0_ := Aside0.mk (show RB w w8 (w.heap.size + 1) (rR 2 p2 true true) from by rw [hw8]; exact RB.put HP.out 1 _ _ rfl); clear hw8 HP hk1; have HP := n0_; clear n0_; have hk1 := blk_cell HP.out.box 1; change _ = some (Value.string p2) at hk1) | ((with_reducible refine gate_dst (N := 68) rfl ?_); refine wpList_load_row rfl 24 (.tmp 4) rfl _ rfl 24 (rR 2 p2 true true) (0, 0) _ HP.out.box hu1 rfl (by kernel_rfl) ?_) | (go_at_call 40; (with_reducible refine (hck _).mono ?_); rintro e w4 ⟨rfl, hb⟩; clear hk1; have n0_ := Aside0.mk (RB.step HP.out hb); clear HP hb; have HP := n0_; clear n0_) | ((with_reducible refine gate_store (t := 24) (p := 2) rfl ?_); refine wpList_store_rowTo rfl 24 (.tmp 2) (.tmp 72) rfl rfl w.heap.size zR rfl rfl 24 zR HP.out.res (by kernel_rfl) rfl (rR_one _ _ _ _) ?_))
  refine bodyPost_ret (results_ct rfl _ _ w.heap.size 24 zR (0, 0) _ rfl (setRow_heap _ _ zR _ 24 (0, 0) HP.out.res) hu1 rfl (by kernel_rfl)) rfl ?_
  exact ⟨rfl, below_setRow HP.out.below (Nat.le_refl _) _⟩
set_option maxHeartbeats 8000000 in
set_option maxRecDepth 100000 in
theorem rparse_3_empty_empty (a0 : ByteArray) (w : World) (hs : a0.size < 1000000) (hb0 : 0 < a0.size) (hb1 : 1 < a0.size) (hc0 : ((a0[0]'hb0).toNat : Int) = 80) (hc1 : ((a0[1]'hb1).toNat : Int) = 32)
  (t : ByteArray) (ht : a0.extract 2 a0.size = t) (hte : t.size = 0) (er : Int)
  (hck : ∀ w, Calls Tryd.prog 40 #[.agg (rR 3 t false false)] w fun e w' => e = .returned (.int .i64 er) ∧ Below w.heap.size w w') :
  Calls Tryd.prog 12 #[.string a0] w fun e w' => e = .returned (if er = 0 then .tuple #[.agg (rR 3 t false false), .int .i64 0] else .tuple #[.agg zR, .int .i64 er]) ∧ Below w.heap.size w w' := by
 have hu1 := Tryd.underlying24
 have HD := Aside0.mk (B1.start 24 w zR)
 have l1 : ((a0.size : Int) < 2) = False := eq_false (by omega)
 have l2 : (a0.size < 2) = False := eq_false (by omega)
 have l3 : ((0 : Int) < (a0.size : Int)) = True := eq_true (by omega)
 have l4 : (0 < a0.size) = True := eq_true hb0
 have l5 : ((1 : Int) < (a0.size : Int)) = True := eq_true (by omega)
 have l6 : (1 < a0.size) = True := eq_true hb1
 have l7 : ((2 : Int) ≤ (a0.size : Int)) = True := eq_true (by omega)
 have l8 : (2 ≤ a0.size) = True := eq_true hb1
 have f1 : t.toList = [] := by rw [ByteArray.toList_eq]; exact List.eq_nil_of_length_eq_zero (by rw [Array.length_toList]; exact hte)
 have g1 : (t.size : Int) = 0 := by omega
 by_cases hz : er = 0
 ·subst hz
  rw [if_pos rfl]
  go_enter Tryd.func12, Tryd.ntmps12
  go_wp2_with (first | ((with_reducible refine gate_store (t := 24) (p := 4) rfl ?_); refine store_event rfl rfl rfl (store_runR _ _ 24 zR (rR 0 t false false) (RB.of0 w).box (.tmp 4) (.tmp 18) rfl rfl rfl (by kernel_rfl) rfl (rR_one _ _ _ _)) ?_; intro w8 hw8; have HP := Aside0.mk (show RB w w8 (w.heap.size + 1) (rR 0 t false false) from by rw [hw8]; exact RB.row_ (RB.of0 w) (rR 0 t false false)); clear hw8 HD; have hk1 := blk_cell HP.out.box 1; change _ = some (Value.string t) at hk1) | ((with_reducible refine gate_store (t := 3) (p := 30) rfl ?_); refine store_event rfl rfl rfl (store_cellR _ HP.out.box 0 3 (.int .i64 3) (.tmp 30) (.const (.int .i64 3)) rfl rfl rfl (by kernel_rfl) (show 0 < 4 by decide) rfl) ?_; intro w8 hw8; have n0_ := Aside0.mk (show RB w w8 (w.heap.size + 1) (rR 3 t false false) from by rw [hw8]; exact RB.put HP.out 0 _ _ rfl); clear hw8 HP hk1; have HP := n0_; clear n0_; have hk1 := blk_cell HP.out.box 1; change _ = some (Value.string t) at hk1) | ((with_reducible refine gate_dst (N := 68) rfl ?_); refine wpList_load_row rfl 24 (.tmp 4) rfl _ rfl 24 (rR 3 t false false) (0, 0) _ HP.out.box hu1 rfl (by kernel_rfl) ?_) | (go_at_call 40; (with_reducible refine (hck _).mono ?_); rintro e w4 ⟨rfl, hb⟩; clear hk1; have n0_ := Aside0.mk (RB.step HP.out hb); clear HP hb; have HP := n0_; clear n0_) | ((with_reducible refine gate_dst (N := 74) rfl ?_); refine wpList_load_row rfl 24 (.tmp 4) rfl _ rfl 24 (rR 3 t false false) (0, 0) _ HP.out.box hu1 rfl (by kernel_rfl) ?_) | ((with_reducible refine gate_store (t := 24) (p := 2) rfl ?_); refine wpList_store_rowTo rfl 24 (.tmp 2) (.tmp 74) rfl rfl w.heap.size (rR 3 t false false) rfl rfl 24 zR HP.out.res (by kernel_rfl) rfl (rR_one _ _ _ _) ?_))
  refine bodyPost_ret (results_ct rfl _ _ w.heap.size 24 (rR 3 t false false) (0, 0) _ rfl (setRow_heap _ _ zR _ 24 (0, 0) HP.out.res) hu1 rfl (by kernel_rfl)) rfl ?_
  exact ⟨rfl, below_setRow HP.out.below (Nat.le_refl _) _⟩
 ·rw [if_neg hz]
  have q1 : (er != 0) = true := bne_iff_ne.2 hz
  go_enter Tryd.func12, Tryd.ntmps12
  go_wp2_with (first | ((with_reducible refine gate_store (t := 24) (p := 4) rfl ?_); refine store_event rfl rfl rfl (store_runR _ _ 24 zR (rR 0 t false false) (RB.of0 w).box (.tmp 4) (.tmp 18) rfl rfl rfl (by kernel_rfl) rfl (rR_one _ _ _ _)) ?_; intro w8 hw8; have HP := Aside0.mk (show RB w w8 (w.heap.size + 1) (rR 0 t false false) from by rw [hw8]; exact RB.row_ (RB.of0 w) (rR 0 t false false)); clear hw8 HD; have hk1 := blk_cell HP.out.box 1; change _ = some (Value.string t) at hk1) | ((with_reducible refine gate_store (t := 3) (p := 30) rfl ?_); refine store_event rfl rfl rfl (store_cellR _ HP.out.box 0 3 (.int .i64 3) (.tmp 30) (.const (.int .i64 3)) rfl rfl rfl (by kernel_rfl) (show 0 < 4 by decide) rfl) ?_; intro w8 hw8; have n0_ := Aside0.mk (show RB w w8 (w.heap.size + 1) (rR 3 t false false) from by rw [hw8]; exact RB.put HP.out 0 _ _ rfl); clear hw8 HP hk1; have HP := n0_; clear n0_; have hk1 := blk_cell HP.out.box 1; change _ = some (Value.string t) at hk1) | ((with_reducible refine gate_dst (N := 68) rfl ?_); refine wpList_load_row rfl 24 (.tmp 4) rfl _ rfl 24 (rR 3 t false false) (0, 0) _ HP.out.box hu1 rfl (by kernel_rfl) ?_) | (go_at_call 40; (with_reducible refine (hck _).mono ?_); rintro e w4 ⟨rfl, hb⟩; clear hk1; have n0_ := Aside0.mk (RB.step HP.out hb); clear HP hb; have HP := n0_; clear n0_) | ((with_reducible refine gate_store (t := 24) (p := 2) rfl ?_); refine wpList_store_rowTo rfl 24 (.tmp 2) (.tmp 72) rfl rfl w.heap.size zR rfl rfl 24 zR HP.out.res (by kernel_rfl) rfl (rR_one _ _ _ _) ?_))
  refine bodyPost_ret (results_ct rfl _ _ w.heap.size 24 zR (0, 0) _ rfl (setRow_heap _ _ zR _ 24 (0, 0) HP.out.res) hu1 rfl (by kernel_rfl)) rfl ?_
  exact ⟨rfl, below_setRow HP.out.below (Nat.le_refl _) _⟩
set_option maxHeartbeats 8000000 in
set_option maxRecDepth 100000 in
theorem rparse_3_no_no (a0 : ByteArray) (w : World) (hs : a0.size < 1000000) (hb0 : 0 < a0.size) (hb1 : 1 < a0.size) (hc0 : ((a0[0]'hb0).toNat : Int) = 80) (hc1 : ((a0[1]'hb1).toNat : Int) = 32)
  (t : ByteArray) (ht : a0.extract 2 a0.size = t) (hte : 0 < t.size) (ht0 : ¬ ((t[0]'hte).toNat : Int) = 47) (m : Nat) (hm : wrap64 ((t.size : Int) - 1) = (m : Int)) (hml : m < t.size) (hpl : ¬ ((t[m]'hml).toNat : Int) = 47) (er : Int)
  (hck : ∀ w, Calls Tryd.prog 40 #[.agg (rR 3 t false false)] w fun e w' => e = .returned (.int .i64 er) ∧ Below w.heap.size w w') :
  Calls Tryd.prog 12 #[.string a0] w fun e w' => e = .returned (if er = 0 then .tuple #[.agg (rR 3 t false false), .int .i64 0] else .tuple #[.agg zR, .int .i64 er]) ∧ Below w.heap.size w w' := by
 have hu1 := Tryd.underlying24
 have HD := Aside0.mk (B1.start 24 w zR)
 have l1 : ((a0.size : Int) < 2) = False := eq_false (by omega)
 have l2 : (a0.size < 2) = False := eq_false (by omega)
 have l3 : ((0 : Int) < (a0.size : Int)) = True := eq_true (by omega)
 have l4 : (0 < a0.size) = True := eq_true hb0
 have l5 : ((1 : Int) < (a0.size : Int)) = True := eq_true (by omega)
 have l6 : (1 < a0.size) = True := eq_true hb1
 have l7 : ((2 : Int) ≤ (a0.size : Int)) = True := eq_true (by omega)
 have l8 : (2 ≤ a0.size) = True := eq_true hb1
 have f1 : (t.toList == []) = false := tl_ne t hte
 have f2 : (0 < t.size) = True := eq_true hte
 have f3 : ((0 : Int) < (t.size : Int)) = True := eq_true (by omega)
 have f4 : (((t[0]'hte).toNat : Int) == 47) = false := beq_eq_false_iff_ne.2 ht0
 have g2 : (m < t.size) = True := eq_true hml
 have g3 : ((m : Int) < (t.size : Int)) = True := eq_true (by omega)
 have g5 : (m ≤ t.size) = True := eq_true (Nat.le_of_lt hml)
 have g6 : ((m : Int) ≤ (t.size : Int)) = True := eq_true (by omega)
 have g4 : (((t[m]'hml).toNat : Int) == 47) = false := beq_eq_false_iff_ne.2 hpl
 have g0 : (0 < t.size) = True := eq_true hte
 have g1 : ((0 : Int) < (t.size : Int)) = True := eq_true (by omega)
 by_cases hz : er = 0
 ·subst hz
  rw [if_pos rfl]
  go_enter Tryd.func12, Tryd.ntmps12
  go_wp2_with (first | ((with_reducible refine gate_store (t := 24) (p := 4) rfl ?_); refine store_event rfl rfl rfl (store_runR _ _ 24 zR (rR 0 t false false) (RB.of0 w).box (.tmp 4) (.tmp 18) rfl rfl rfl (by kernel_rfl) rfl (rR_one _ _ _ _)) ?_; intro w8 hw8; have HP := Aside0.mk (show RB w w8 (w.heap.size + 1) (rR 0 t false false) from by rw [hw8]; exact RB.row_ (RB.of0 w) (rR 0 t false false)); clear hw8 HD; have hk1 := blk_cell HP.out.box 1; change _ = some (Value.string t) at hk1) | ((with_reducible refine gate_store (t := 3) (p := 30) rfl ?_); refine store_event rfl rfl rfl (store_cellR _ HP.out.box 0 3 (.int .i64 3) (.tmp 30) (.const (.int .i64 3)) rfl rfl rfl (by kernel_rfl) (show 0 < 4 by decide) rfl) ?_; intro w8 hw8; have n0_ := Aside0.mk (show RB w w8 (w.heap.size + 1) (rR 3 t false false) from by rw [hw8]; exact RB.put HP.out 0 _ _ rfl); clear hw8 HP hk1; have HP := n0_; clear n0_; have hk1 := blk_cell HP.out.box 1; change _ = some (Value.string t) at hk1) | ((with_reducible refine gate_dst (N := 68) rfl ?_); refine wpList_load_row rfl 24 (.tmp 4) rfl _ rfl 24 (rR 3 t false false) (0, 0) _ HP.out.box hu1 rfl (by kernel_rfl) ?_) | (go_at_call 40; (with_reducible refine (hck _).mono ?_); rintro e w4 ⟨rfl, hb⟩; clear hk1; have n0_ := Aside0.mk (RB.step HP.out hb); clear HP hb; have HP := n0_; clear n0_) | ((with_reducible refine gate_dst (N := 74) rfl ?_); refine wpList_load_row rfl 24 (.tmp 4) rfl _ rfl 24 (rR 3 t false false) (0, 0) _ HP.out.box hu1 rfl (by kernel_rfl) ?_) | ((with_reducible refine gate_store (t := 24) (p := 2) rfl ?_); refine wpList_store_rowTo rfl 24 (.tmp 2) (.tmp 74) rfl rfl w.heap.size (rR 3 t false false) rfl rfl 24 zR HP.out.res (by kernel_rfl) rfl (rR_one _ _ _ _) ?_))
  refine bodyPost_ret (results_ct rfl _ _ w.heap.size 24 (rR 3 t false false) (0, 0) _ rfl (setRow_heap _ _ zR _ 24 (0, 0) HP.out.res) hu1 rfl (by kernel_rfl)) rfl ?_
  exact ⟨rfl, below_setRow HP.out.below (Nat.le_refl _) _⟩
 ·rw [if_neg hz]
  have q1 : (er != 0) = true := bne_iff_ne.2 hz
  go_enter Tryd.func12, Tryd.ntmps12
  go_wp2_with (first | ((with_reducible refine gate_store (t := 24) (p := 4) rfl ?_); refine store_event rfl rfl rfl (store_runR _ _ 24 zR (rR 0 t false false) (RB.of0 w).box (.tmp 4) (.tmp 18) rfl rfl rfl (by kernel_rfl) rfl (rR_one _ _ _ _)) ?_; intro w8 hw8; have HP := Aside0.mk (show RB w w8 (w.heap.size + 1) (rR 0 t false false) from by rw [hw8]; exact RB.row_ (RB.of0 w) (rR 0 t false false)); clear hw8 HD; have hk1 := blk_cell HP.out.box 1; change _ = some (Value.string t) at hk1) | ((with_reducible refine gate_store (t := 3) (p := 30) rfl ?_); refine store_event rfl rfl rfl (store_cellR _ HP.out.box 0 3 (.int .i64 3) (.tmp 30) (.const (.int .i64 3)) rfl rfl rfl (by kernel_rfl) (show 0 < 4 by decide) rfl) ?_; intro w8 hw8; have n0_ := Aside0.mk (show RB w w8 (w.heap.size + 1) (rR 3 t false false) from by rw [hw8]; exact RB.put HP.out 0 _ _ rfl); clear hw8 HP hk1; have HP := n0_; clear n0_; have hk1 := blk_cell HP.out.box 1; change _ = some (Value.string t) at hk1) | ((with_reducible refine gate_dst (N := 68) rfl ?_); refine wpList_load_row rfl 24 (.tmp 4) rfl _ rfl 24 (rR 3 t false false) (0, 0) _ HP.out.box hu1 rfl (by kernel_rfl) ?_) | (go_at_call 40; (with_reducible refine (hck _).mono ?_); rintro e w4 ⟨rfl, hb⟩; clear hk1; have n0_ := Aside0.mk (RB.step HP.out hb); clear HP hb; have HP := n0_; clear n0_) | ((with_reducible refine gate_store (t := 24) (p := 2) rfl ?_); refine wpList_store_rowTo rfl 24 (.tmp 2) (.tmp 72) rfl rfl w.heap.size zR rfl rfl 24 zR HP.out.res (by kernel_rfl) rfl (rR_one _ _ _ _) ?_))
  refine bodyPost_ret (results_ct rfl _ _ w.heap.size 24 zR (0, 0) _ rfl (setRow_heap _ _ zR _ 24 (0, 0) HP.out.res) hu1 rfl (by kernel_rfl)) rfl ?_
  exact ⟨rfl, below_setRow HP.out.below (Nat.le_refl _) _⟩
set_option maxHeartbeats 8000000 in
set_option maxRecDepth 100000 in
theorem rparse_3_no_yes (a0 : ByteArray) (w : World) (hs : a0.size < 1000000) (hb0 : 0 < a0.size) (hb1 : 1 < a0.size) (hc0 : ((a0[0]'hb0).toNat : Int) = 80) (hc1 : ((a0[1]'hb1).toNat : Int) = 32)
  (t : ByteArray) (ht : a0.extract 2 a0.size = t) (hte : 0 < t.size) (ht0 : ¬ ((t[0]'hte).toNat : Int) = 47) (m : Nat) (hm : wrap64 ((t.size : Int) - 1) = (m : Int)) (hml : m < t.size) (hpl : ((t[m]'hml).toNat : Int) = 47) (p2 : ByteArray) (hp2 : t.extract 0 m = p2) (er : Int)
  (hck : ∀ w, Calls Tryd.prog 40 #[.agg (rR 3 p2 true false)] w fun e w' => e = .returned (.int .i64 er) ∧ Below w.heap.size w w') :
  Calls Tryd.prog 12 #[.string a0] w fun e w' => e = .returned (if er = 0 then .tuple #[.agg (rR 3 p2 true false), .int .i64 0] else .tuple #[.agg zR, .int .i64 er]) ∧ Below w.heap.size w w' := by
 have hu1 := Tryd.underlying24
 have HD := Aside0.mk (B1.start 24 w zR)
 have l1 : ((a0.size : Int) < 2) = False := eq_false (by omega)
 have l2 : (a0.size < 2) = False := eq_false (by omega)
 have l3 : ((0 : Int) < (a0.size : Int)) = True := eq_true (by omega)
 have l4 : (0 < a0.size) = True := eq_true hb0
 have l5 : ((1 : Int) < (a0.size : Int)) = True := eq_true (by omega)
 have l6 : (1 < a0.size) = True := eq_true hb1
 have l7 : ((2 : Int) ≤ (a0.size : Int)) = True := eq_true (by omega)
 have l8 : (2 ≤ a0.size) = True := eq_true hb1
 have f1 : (t.toList == []) = false := tl_ne t hte
 have f2 : (0 < t.size) = True := eq_true hte
 have f3 : ((0 : Int) < (t.size : Int)) = True := eq_true (by omega)
 have f4 : (((t[0]'hte).toNat : Int) == 47) = false := beq_eq_false_iff_ne.2 ht0
 have g2 : (m < t.size) = True := eq_true hml
 have g3 : ((m : Int) < (t.size : Int)) = True := eq_true (by omega)
 have g5 : (m ≤ t.size) = True := eq_true (Nat.le_of_lt hml)
 have g6 : ((m : Int) ≤ (t.size : Int)) = True := eq_true (by omega)
 have g0 : (0 < t.size) = True := eq_true hte
 have g1 : ((0 : Int) < (t.size : Int)) = True := eq_true (by omega)
 by_cases hz : er = 0
 ·subst hz
  rw [if_pos rfl]
  go_enter Tryd.func12, Tryd.ntmps12
  go_wp2_with (first | ((with_reducible refine gate_store (t := 24) (p := 4) rfl ?_); refine store_event rfl rfl rfl (store_runR _ _ 24 zR (rR 0 t false false) (RB.of0 w).box (.tmp 4) (.tmp 18) rfl rfl rfl (by kernel_rfl) rfl (rR_one _ _ _ _)) ?_; intro w8 hw8; have HP := Aside0.mk (show RB w w8 (w.heap.size + 1) (rR 0 t false false) from by rw [hw8]; exact RB.row_ (RB.of0 w) (rR 0 t false false)); clear hw8 HD; have hk1 := blk_cell HP.out.box 1; change _ = some (Value.string t) at hk1) | ((with_reducible refine gate_store (t := 3) (p := 30) rfl ?_); refine store_event rfl rfl rfl (store_cellR _ HP.out.box 0 3 (.int .i64 3) (.tmp 30) (.const (.int .i64 3)) rfl rfl rfl (by kernel_rfl) (show 0 < 4 by decide) rfl) ?_; intro w8 hw8; have n0_ := Aside0.mk (show RB w w8 (w.heap.size + 1) (rR 3 t false false) from by rw [hw8]; exact RB.put HP.out 0 _ _ rfl); clear hw8 HP hk1; have HP := n0_; clear n0_; have hk1 := blk_cell HP.out.box 1; change _ = some (Value.string t) at hk1) | ((with_reducible refine gate_store (t := 4) (p := 61) rfl ?_); refine store_event rfl rfl rfl (store_cellR _ HP.out.box 2 4 (.bool true) (.tmp 61) (.const (.bool true)) rfl rfl rfl (by kernel_rfl) (show 2 < 4 by decide) rfl) ?_; intro w8 hw8; have n0_ := Aside0.mk (show RB w w8 (w.heap.size + 1) (rR 3 t true false) from by rw [hw8]; exact RB.put HP.out 2 _ _ rfl); clear hw8 HP hk1; have HP := n0_; clear n0_; have hk1 := blk_cell HP.out.box 1; change _ = some (Value.string t) at hk1) | ((with_reducible refine gate_store (t := 9) (p := 67) rfl ?_); refine store_event rfl rfl rfl (store_cellR _ HP.out.box 1 9 (.string p2) (.tmp 67) (.tmp 66) rfl rfl rfl (by kernel_rfl) (show 1 < 4 by decide) rfl) ?_; intro w8 hw8; have n0_ := Aside0.mk (show RB w w8 (w.heap.size + 1) (rR 3 p2 true false) from by rw [hw8]; exact RB.put HP.out 1 _ _ rfl); clear hw8 HP hk1; have HP := n0_; clear n0_; have hk1 := blk_cell HP.out.box 1; change _ = some (Value.string p2) at hk1) | ((with_reducible refine gate_dst (N := 68) rfl ?_); refine wpList_load_row rfl 24 (.tmp 4) rfl _ rfl 24 (rR 3 p2 true false) (0, 0) _ HP.out.box hu1 rfl (by kernel_rfl) ?_) | (go_at_call 40; (with_reducible refine (hck _).mono ?_); rintro e w4 ⟨rfl, hb⟩; clear hk1; have n0_ := Aside0.mk (RB.step HP.out hb); clear HP hb; have HP := n0_; clear n0_) | ((with_reducible refine gate_dst (N := 74) rfl ?_); refine wpList_load_row rfl 24 (.tmp 4) rfl _ rfl 24 (rR 3 p2 true false) (0, 0) _ HP.out.box hu1 rfl (by kernel_rfl) ?_) | ((with_reducible refine gate_store (t := 24) (p := 2) rfl ?_); refine wpList_store_rowTo rfl 24 (.tmp 2) (.tmp 74) rfl rfl w.heap.size (rR 3 p2 true false) rfl rfl 24 zR HP.out.res (by kernel_rfl) rfl (rR_one _ _ _ _) ?_))
  refine bodyPost_ret (results_ct rfl _ _ w.heap.size 24 (rR 3 p2 true false) (0, 0) _ rfl (setRow_heap _ _ zR _ 24 (0, 0) HP.out.res) hu1 rfl (by kernel_rfl)) rfl ?_
  exact ⟨rfl, below_setRow HP.out.below (Nat.le_refl _) _⟩
 ·rw [if_neg hz]
  have q1 : (er != 0) = true := bne_iff_ne.2 hz
  go_enter Tryd.func12, Tryd.ntmps12
  go_wp2_with (first | ((with_reducible refine gate_store (t := 24) (p := 4) rfl ?_); refine store_event rfl rfl rfl (store_runR _ _ 24 zR (rR 0 t false false) (RB.of0 w).box (.tmp 4) (.tmp 18) rfl rfl rfl (by kernel_rfl) rfl (rR_one _ _ _ _)) ?_; intro w8 hw8; have HP := Aside0.mk (show RB w w8 (w.heap.size + 1) (rR 0 t false false) from by rw [hw8]; exact RB.row_ (RB.of0 w) (rR 0 t false false)); clear hw8 HD; have hk1 := blk_cell HP.out.box 1; change _ = some (Value.string t) at hk1) | ((with_reducible refine gate_store (t := 3) (p := 30) rfl ?_); refine store_event rfl rfl rfl (store_cellR _ HP.out.box 0 3 (.int .i64 3) (.tmp 30) (.const (.int .i64 3)) rfl rfl rfl (by kernel_rfl) (show 0 < 4 by decide) rfl) ?_; intro w8 hw8; have n0_ := Aside0.mk (show RB w w8 (w.heap.size + 1) (rR 3 t false false) from by rw [hw8]; exact RB.put HP.out 0 _ _ rfl); clear hw8 HP hk1; have HP := n0_; clear n0_; have hk1 := blk_cell HP.out.box 1; change _ = some (Value.string t) at hk1) | ((with_reducible refine gate_store (t := 4) (p := 61) rfl ?_); refine store_event rfl rfl rfl (store_cellR _ HP.out.box 2 4 (.bool true) (.tmp 61) (.const (.bool true)) rfl rfl rfl (by kernel_rfl) (show 2 < 4 by decide) rfl) ?_; intro w8 hw8; have n0_ := Aside0.mk (show RB w w8 (w.heap.size + 1) (rR 3 t true false) from by rw [hw8]; exact RB.put HP.out 2 _ _ rfl); clear hw8 HP hk1; have HP := n0_; clear n0_; have hk1 := blk_cell HP.out.box 1; change _ = some (Value.string t) at hk1) | ((with_reducible refine gate_store (t := 9) (p := 67) rfl ?_); refine store_event rfl rfl rfl (store_cellR _ HP.out.box 1 9 (.string p2) (.tmp 67) (.tmp 66) rfl rfl rfl (by kernel_rfl) (show 1 < 4 by decide) rfl) ?_; intro w8 hw8; have n0_ := Aside0.mk (show RB w w8 (w.heap.size + 1) (rR 3 p2 true false) from by rw [hw8]; exact RB.put HP.out 1 _ _ rfl); clear hw8 HP hk1; have HP := n0_; clear n0_; have hk1 := blk_cell HP.out.box 1; change _ = some (Value.string p2) at hk1) | ((with_reducible refine gate_dst (N := 68) rfl ?_); refine wpList_load_row rfl 24 (.tmp 4) rfl _ rfl 24 (rR 3 p2 true false) (0, 0) _ HP.out.box hu1 rfl (by kernel_rfl) ?_) | (go_at_call 40; (with_reducible refine (hck _).mono ?_); rintro e w4 ⟨rfl, hb⟩; clear hk1; have n0_ := Aside0.mk (RB.step HP.out hb); clear HP hb; have HP := n0_; clear n0_) | ((with_reducible refine gate_store (t := 24) (p := 2) rfl ?_); refine wpList_store_rowTo rfl 24 (.tmp 2) (.tmp 72) rfl rfl w.heap.size zR rfl rfl 24 zR HP.out.res (by kernel_rfl) rfl (rR_one _ _ _ _) ?_))
  refine bodyPost_ret (results_ct rfl _ _ w.heap.size 24 zR (0, 0) _ rfl (setRow_heap _ _ zR _ 24 (0, 0) HP.out.res) hu1 rfl (by kernel_rfl)) rfl ?_
  exact ⟨rfl, below_setRow HP.out.below (Nat.le_refl _) _⟩
set_option maxHeartbeats 8000000 in
set_option maxRecDepth 100000 in
theorem rparse_3_yes_empty (a0 : ByteArray) (w : World) (hs : a0.size < 1000000) (hb0 : 0 < a0.size) (hb1 : 1 < a0.size) (hc0 : ((a0[0]'hb0).toNat : Int) = 80) (hc1 : ((a0[1]'hb1).toNat : Int) = 32)
  (t : ByteArray) (ht : a0.extract 2 a0.size = t) (hte : 0 < t.size) (ht0 : ((t[0]'hte).toNat : Int) = 47) (p1 : ByteArray) (hp1 : t.extract 1 t.size = p1) (hpe : p1.size = 0) (er : Int)
  (hck : ∀ w, Calls Tryd.prog 40 #[.agg (rR 3 p1 false true)] w fun e w' => e = .returned (.int .i64 er) ∧ Below w.heap.size w w') :
  Calls Tryd.prog 12 #[.string a0] w fun e w' => e = .returned (if er = 0 then .tuple #[.agg (rR 3 p1 false true), .int .i64 0] else .tuple #[.agg zR, .int .i64 er]) ∧ Below w.heap.size w w' := by
 have hu1 := Tryd.underlying24
 have HD := Aside0.mk (B1.start 24 w zR)
 have l1 : ((a0.size : Int) < 2) = False := eq_false (by omega)
 have l2 : (a0.size < 2) = False := eq_false (by omega)
 have l3 : ((0 : Int) < (a0.size : Int)) = True := eq_true (by omega)
 have l4 : (0 < a0.size) = True := eq_true hb0
 have l5 : ((1 : Int) < (a0.size : Int)) = True := eq_true (by omega)
 have l6 : (1 < a0.size) = True := eq_true hb1
 have l7 : ((2 : Int) ≤ (a0.size : Int)) = True := eq_true (by omega)
 have l8 : (2 ≤ a0.size) = True := eq_true hb1
 have f1 : (t.toList == []) = false := tl_ne t hte
 have f2 : (0 < t.size) = True := eq_true hte
 have f3 : ((0 : Int) < (t.size : Int)) = True := eq_true (by omega)
 have f5 : ((1 : Int) ≤ (t.size : Int)) = True := eq_true (by omega)
 have f6 : (1 ≤ t.size) = True := eq_true hte
 have g1 : (p1.size : Int) = 0 := by omega
 by_cases hz : er = 0
 ·subst hz
  rw [if_pos rfl]
  go_enter Tryd.func12, Tryd.ntmps12
  go_wp2_with (first | ((with_reducible refine gate_store (t := 24) (p := 4) rfl ?_); refine store_event rfl rfl rfl (store_runR _ _ 24 zR (rR 0 t false false) (RB.of0 w).box (.tmp 4) (.tmp 18) rfl rfl rfl (by kernel_rfl) rfl (rR_one _ _ _ _)) ?_; intro w8 hw8; have HP := Aside0.mk (show RB w w8 (w.heap.size + 1) (rR 0 t false false) from by rw [hw8]; exact RB.row_ (RB.of0 w) (rR 0 t false false)); clear hw8 HD; have hk1 := blk_cell HP.out.box 1; change _ = some (Value.string t) at hk1) | ((with_reducible refine gate_store (t := 3) (p := 30) rfl ?_); refine store_event rfl rfl rfl (store_cellR _ HP.out.box 0 3 (.int .i64 3) (.tmp 30) (.const (.int .i64 3)) rfl rfl rfl (by kernel_rfl) (show 0 < 4 by decide) rfl) ?_; intro w8 hw8; have n0_ := Aside0.mk (show RB w w8 (w.heap.size + 1) (rR 3 t false false) from by rw [hw8]; exact RB.put HP.out 0 _ _ rfl); clear hw8 HP hk1; have HP := n0_; clear n0_; have hk1 := blk_cell HP.out.box 1; change _ = some (Value.string t) at hk1) | ((with_reducible refine gate_store (t := 4) (p := 43) rfl ?_); refine store_event rfl rfl rfl (store_cellR _ HP.out.box 3 4 (.bool true) (.tmp 43) (.const (.bool true)) rfl rfl rfl (by kernel_rfl) (show 3 < 4 by decide) rfl) ?_; intro w8 hw8; have n0_ := Aside0.mk (show RB w w8 (w.heap.size + 1) (rR 3 t false true) from by rw [hw8]; exact RB.put HP.out 3 _ _ rfl); clear hw8 HP hk1; have HP := n0_; clear n0_; have hk1 := blk_cell HP.out.box 1; change _ = some (Value.string t) at hk1) | ((with_reducible refine gate_store (t := 9) (p := 47) rfl ?_); refine store_event rfl rfl rfl (store_cellR _ HP.out.box 1 9 (.string p1) (.tmp 47) (.tmp 46) rfl rfl rfl (by kernel_rfl) (show 1 < 4 by decide) rfl) ?_; intro w8 hw8; have n0_ := Aside0.mk (show RB w w8 (w.heap.size + 1) (rR 3 p1 false true) from by rw [hw8]; exact RB.put HP.out 1 _ _ rfl); clear hw8 HP hk1; have HP := n0_; clear n0_; have hk1 := blk_cell HP.out.box 1; change _ = some (Value.string p1) at hk1) | ((with_reducible refine gate_dst (N := 68) rfl ?_); refine wpList_load_row rfl 24 (.tmp 4) rfl _ rfl 24 (rR 3 p1 false true) (0, 0) _ HP.out.box hu1 rfl (by kernel_rfl) ?_) | (go_at_call 40; (with_reducible refine (hck _).mono ?_); rintro e w4 ⟨rfl, hb⟩; clear hk1; have n0_ := Aside0.mk (RB.step HP.out hb); clear HP hb; have HP := n0_; clear n0_) | ((with_reducible refine gate_dst (N := 74) rfl ?_); refine wpList_load_row rfl 24 (.tmp 4) rfl _ rfl 24 (rR 3 p1 false true) (0, 0) _ HP.out.box hu1 rfl (by kernel_rfl) ?_) | ((with_reducible refine gate_store (t := 24) (p := 2) rfl ?_); refine wpList_store_rowTo rfl 24 (.tmp 2) (.tmp 74) rfl rfl w.heap.size (rR 3 p1 false true) rfl rfl 24 zR HP.out.res (by kernel_rfl) rfl (rR_one _ _ _ _) ?_))
  refine bodyPost_ret (results_ct rfl _ _ w.heap.size 24 (rR 3 p1 false true) (0, 0) _ rfl (setRow_heap _ _ zR _ 24 (0, 0) HP.out.res) hu1 rfl (by kernel_rfl)) rfl ?_
  exact ⟨rfl, below_setRow HP.out.below (Nat.le_refl _) _⟩
 ·rw [if_neg hz]
  have q1 : (er != 0) = true := bne_iff_ne.2 hz
  go_enter Tryd.func12, Tryd.ntmps12
  go_wp2_with (first | ((with_reducible refine gate_store (t := 24) (p := 4) rfl ?_); refine store_event rfl rfl rfl (store_runR _ _ 24 zR (rR 0 t false false) (RB.of0 w).box (.tmp 4) (.tmp 18) rfl rfl rfl (by kernel_rfl) rfl (rR_one _ _ _ _)) ?_; intro w8 hw8; have HP := Aside0.mk (show RB w w8 (w.heap.size + 1) (rR 0 t false false) from by rw [hw8]; exact RB.row_ (RB.of0 w) (rR 0 t false false)); clear hw8 HD; have hk1 := blk_cell HP.out.box 1; change _ = some (Value.string t) at hk1) | ((with_reducible refine gate_store (t := 3) (p := 30) rfl ?_); refine store_event rfl rfl rfl (store_cellR _ HP.out.box 0 3 (.int .i64 3) (.tmp 30) (.const (.int .i64 3)) rfl rfl rfl (by kernel_rfl) (show 0 < 4 by decide) rfl) ?_; intro w8 hw8; have n0_ := Aside0.mk (show RB w w8 (w.heap.size + 1) (rR 3 t false false) from by rw [hw8]; exact RB.put HP.out 0 _ _ rfl); clear hw8 HP hk1; have HP := n0_; clear n0_; have hk1 := blk_cell HP.out.box 1; change _ = some (Value.string t) at hk1) | ((with_reducible refine gate_store (t := 4) (p := 43) rfl ?_); refine store_event rfl rfl rfl (store_cellR _ HP.out.box 3 4 (.bool true) (.tmp 43) (.const (.bool true)) rfl rfl rfl (by kernel_rfl) (show 3 < 4 by decide) rfl) ?_; intro w8 hw8; have n0_ := Aside0.mk (show RB w w8 (w.heap.size + 1) (rR 3 t false true) from by rw [hw8]; exact RB.put HP.out 3 _ _ rfl); clear hw8 HP hk1; have HP := n0_; clear n0_; have hk1 := blk_cell HP.out.box 1; change _ = some (Value.string t) at hk1) | ((with_reducible refine gate_store (t := 9) (p := 47) rfl ?_); refine store_event rfl rfl rfl (store_cellR _ HP.out.box 1 9 (.string p1) (.tmp 47) (.tmp 46) rfl rfl rfl (by kernel_rfl) (show 1 < 4 by decide) rfl) ?_; intro w8 hw8; have n0_ := Aside0.mk (show RB w w8 (w.heap.size + 1) (rR 3 p1 false true) from by rw [hw8]; exact RB.put HP.out 1 _ _ rfl); clear hw8 HP hk1; have HP := n0_; clear n0_; have hk1 := blk_cell HP.out.box 1; change _ = some (Value.string p1) at hk1) | ((with_reducible refine gate_dst (N := 68) rfl ?_); refine wpList_load_row rfl 24 (.tmp 4) rfl _ rfl 24 (rR 3 p1 false true) (0, 0) _ HP.out.box hu1 rfl (by kernel_rfl) ?_) | (go_at_call 40; (with_reducible refine (hck _).mono ?_); rintro e w4 ⟨rfl, hb⟩; clear hk1; have n0_ := Aside0.mk (RB.step HP.out hb); clear HP hb; have HP := n0_; clear n0_) | ((with_reducible refine gate_store (t := 24) (p := 2) rfl ?_); refine wpList_store_rowTo rfl 24 (.tmp 2) (.tmp 72) rfl rfl w.heap.size zR rfl rfl 24 zR HP.out.res (by kernel_rfl) rfl (rR_one _ _ _ _) ?_))
  refine bodyPost_ret (results_ct rfl _ _ w.heap.size 24 zR (0, 0) _ rfl (setRow_heap _ _ zR _ 24 (0, 0) HP.out.res) hu1 rfl (by kernel_rfl)) rfl ?_
  exact ⟨rfl, below_setRow HP.out.below (Nat.le_refl _) _⟩
set_option maxHeartbeats 8000000 in
set_option maxRecDepth 100000 in
theorem rparse_3_yes_no (a0 : ByteArray) (w : World) (hs : a0.size < 1000000) (hb0 : 0 < a0.size) (hb1 : 1 < a0.size) (hc0 : ((a0[0]'hb0).toNat : Int) = 80) (hc1 : ((a0[1]'hb1).toNat : Int) = 32)
  (t : ByteArray) (ht : a0.extract 2 a0.size = t) (hte : 0 < t.size) (ht0 : ((t[0]'hte).toNat : Int) = 47) (p1 : ByteArray) (hp1 : t.extract 1 t.size = p1) (hpe : 0 < p1.size) (m : Nat) (hm : wrap64 ((p1.size : Int) - 1) = (m : Int)) (hml : m < p1.size) (hpl : ¬ ((p1[m]'hml).toNat : Int) = 47) (er : Int)
  (hck : ∀ w, Calls Tryd.prog 40 #[.agg (rR 3 p1 false true)] w fun e w' => e = .returned (.int .i64 er) ∧ Below w.heap.size w w') :
  Calls Tryd.prog 12 #[.string a0] w fun e w' => e = .returned (if er = 0 then .tuple #[.agg (rR 3 p1 false true), .int .i64 0] else .tuple #[.agg zR, .int .i64 er]) ∧ Below w.heap.size w w' := by
 have hu1 := Tryd.underlying24
 have HD := Aside0.mk (B1.start 24 w zR)
 have l1 : ((a0.size : Int) < 2) = False := eq_false (by omega)
 have l2 : (a0.size < 2) = False := eq_false (by omega)
 have l3 : ((0 : Int) < (a0.size : Int)) = True := eq_true (by omega)
 have l4 : (0 < a0.size) = True := eq_true hb0
 have l5 : ((1 : Int) < (a0.size : Int)) = True := eq_true (by omega)
 have l6 : (1 < a0.size) = True := eq_true hb1
 have l7 : ((2 : Int) ≤ (a0.size : Int)) = True := eq_true (by omega)
 have l8 : (2 ≤ a0.size) = True := eq_true hb1
 have f1 : (t.toList == []) = false := tl_ne t hte
 have f2 : (0 < t.size) = True := eq_true hte
 have f3 : ((0 : Int) < (t.size : Int)) = True := eq_true (by omega)
 have f5 : ((1 : Int) ≤ (t.size : Int)) = True := eq_true (by omega)
 have f6 : (1 ≤ t.size) = True := eq_true hte
 have g2 : (m < p1.size) = True := eq_true hml
 have g3 : ((m : Int) < (p1.size : Int)) = True := eq_true (by omega)
 have g5 : (m ≤ p1.size) = True := eq_true (Nat.le_of_lt hml)
 have g6 : ((m : Int) ≤ (p1.size : Int)) = True := eq_true (by omega)
 have g4 : (((p1[m]'hml).toNat : Int) == 47) = false := beq_eq_false_iff_ne.2 hpl
 have g0 : (0 < p1.size) = True := eq_true hpe
 have g1 : ((0 : Int) < (p1.size : Int)) = True := eq_true (by omega)
 by_cases hz : er = 0
 ·subst hz
  rw [if_pos rfl]
  go_enter Tryd.func12, Tryd.ntmps12
  go_wp2_with (first | ((with_reducible refine gate_store (t := 24) (p := 4) rfl ?_); refine store_event rfl rfl rfl (store_runR _ _ 24 zR (rR 0 t false false) (RB.of0 w).box (.tmp 4) (.tmp 18) rfl rfl rfl (by kernel_rfl) rfl (rR_one _ _ _ _)) ?_; intro w8 hw8; have HP := Aside0.mk (show RB w w8 (w.heap.size + 1) (rR 0 t false false) from by rw [hw8]; exact RB.row_ (RB.of0 w) (rR 0 t false false)); clear hw8 HD; have hk1 := blk_cell HP.out.box 1; change _ = some (Value.string t) at hk1) | ((with_reducible refine gate_store (t := 3) (p := 30) rfl ?_); refine store_event rfl rfl rfl (store_cellR _ HP.out.box 0 3 (.int .i64 3) (.tmp 30) (.const (.int .i64 3)) rfl rfl rfl (by kernel_rfl) (show 0 < 4 by decide) rfl) ?_; intro w8 hw8; have n0_ := Aside0.mk (show RB w w8 (w.heap.size + 1) (rR 3 t false false) from by rw [hw8]; exact RB.put HP.out 0 _ _ rfl); clear hw8 HP hk1; have HP := n0_; clear n0_; have hk1 := blk_cell HP.out.box 1; change _ = some (Value.string t) at hk1) | ((with_reducible refine gate_store (t := 4) (p := 43) rfl ?_); refine store_event rfl rfl rfl (store_cellR _ HP.out.box 3 4 (.bool true) (.tmp 43) (.const (.bool true)) rfl rfl rfl (by kernel_rfl) (show 3 < 4 by decide) rfl) ?_; intro w8 hw8; have n0_ := Aside0.mk (show RB w w8 (w.heap.size + 1) (rR 3 t false true) from by rw [hw8]; exact RB.put HP.out 3 _ _ rfl); clear hw8 HP hk1; have HP := n0_; clear n0_; have hk1 := blk_cell HP.out.box 1; change _ = some (Value.string t) at hk1) | ((with_reducible refine gate_store (t := 9) (p := 47) rfl ?_); refine store_event rfl rfl rfl (store_cellR _ HP.out.box 1 9 (.string p1) (.tmp 47) (.tmp 46) rfl rfl rfl (by kernel_rfl) (show 1 < 4 by decide) rfl) ?_; intro w8 hw8; have n0_ := Aside0.mk (show RB w w8 (w.heap.size + 1) (rR 3 p1 false true) from by rw [hw8]; exact RB.put HP.out 1 _ _ rfl); clear hw8 HP hk1; have HP := n0_; clear n0_; have hk1 := blk_cell HP.out.box 1; change _ = some (Value.string p1) at hk1) | ((with_reducible refine gate_dst (N := 68) rfl ?_); refine wpList_load_row rfl 24 (.tmp 4) rfl _ rfl 24 (rR 3 p1 false true) (0, 0) _ HP.out.box hu1 rfl (by kernel_rfl) ?_) | (go_at_call 40; (with_reducible refine (hck _).mono ?_); rintro e w4 ⟨rfl, hb⟩; clear hk1; have n0_ := Aside0.mk (RB.step HP.out hb); clear HP hb; have HP := n0_; clear n0_) | ((with_reducible refine gate_dst (N := 74) rfl ?_); refine wpList_load_row rfl 24 (.tmp 4) rfl _ rfl 24 (rR 3 p1 false true) (0, 0) _ HP.out.box hu1 rfl (by kernel_rfl) ?_) | ((with_reducible refine gate_store (t := 24) (p := 2) rfl ?_); refine wpList_store_rowTo rfl 24 (.tmp 2) (.tmp 74) rfl rfl w.heap.size (rR 3 p1 false true) rfl rfl 24 zR HP.out.res (by kernel_rfl) rfl (rR_one _ _ _ _) ?_))
  refine bodyPost_ret (results_ct rfl _ _ w.heap.size 24 (rR 3 p1 false true) (0, 0) _ rfl (setRow_heap _ _ zR _ 24 (0, 0) HP.out.res) hu1 rfl (by kernel_rfl)) rfl ?_
  exact ⟨rfl, below_setRow HP.out.below (Nat.le_refl _) _⟩
 ·rw [if_neg hz]
  have q1 : (er != 0) = true := bne_iff_ne.2 hz
  go_enter Tryd.func12, Tryd.ntmps12
  go_wp2_with (first | ((with_reducible refine gate_store (t := 24) (p := 4) rfl ?_); refine store_event rfl rfl rfl (store_runR _ _ 24 zR (rR 0 t false false) (RB.of0 w).box (.tmp 4) (.tmp 18) rfl rfl rfl (by kernel_rfl) rfl (rR_one _ _ _ _)) ?_; intro w8 hw8; have HP := Aside0.mk (show RB w w8 (w.heap.size + 1) (rR 0 t false false) from by rw [hw8]; exact RB.row_ (RB.of0 w) (rR 0 t false false)); clear hw8 HD; have hk1 := blk_cell HP.out.box 1; change _ = some (Value.string t) at hk1) | ((with_reducible refine gate_store (t := 3) (p := 30) rfl ?_); refine store_event rfl rfl rfl (store_cellR _ HP.out.box 0 3 (.int .i64 3) (.tmp 30) (.const (.int .i64 3)) rfl rfl rfl (by kernel_rfl) (show 0 < 4 by decide) rfl) ?_; intro w8 hw8; have n0_ := Aside0.mk (show RB w w8 (w.heap.size + 1) (rR 3 t false false) from by rw [hw8]; exact RB.put HP.out 0 _ _ rfl); clear hw8 HP hk1; have HP := n0_; clear n0_; have hk1 := blk_cell HP.out.box 1; change _ = some (Value.string t) at hk1) | ((with_reducible refine gate_store (t := 4) (p := 43) rfl ?_); refine store_event rfl rfl rfl (store_cellR _ HP.out.box 3 4 (.bool true) (.tmp 43) (.const (.bool true)) rfl rfl rfl (by kernel_rfl) (show 3 < 4 by decide) rfl) ?_; intro w8 hw8; have n0_ := Aside0.mk (show RB w w8 (w.heap.size + 1) (rR 3 t false true) from by rw [hw8]; exact RB.put HP.out 3 _ _ rfl); clear hw8 HP hk1; have HP := n0_; clear n0_; have hk1 := blk_cell HP.out.box 1; change _ = some (Value.string t) at hk1) | ((with_reducible refine gate_store (t := 9) (p := 47) rfl ?_); refine store_event rfl rfl rfl (store_cellR _ HP.out.box 1 9 (.string p1) (.tmp 47) (.tmp 46) rfl rfl rfl (by kernel_rfl) (show 1 < 4 by decide) rfl) ?_; intro w8 hw8; have n0_ := Aside0.mk (show RB w w8 (w.heap.size + 1) (rR 3 p1 false true) from by rw [hw8]; exact RB.put HP.out 1 _ _ rfl); clear hw8 HP hk1; have HP := n0_; clear n0_; have hk1 := blk_cell HP.out.box 1; change _ = some (Value.string p1) at hk1) | ((with_reducible refine gate_dst (N := 68) rfl ?_); refine wpList_load_row rfl 24 (.tmp 4) rfl _ rfl 24 (rR 3 p1 false true) (0, 0) _ HP.out.box hu1 rfl (by kernel_rfl) ?_) | (go_at_call 40; (with_reducible refine (hck _).mono ?_); rintro e w4 ⟨rfl, hb⟩; clear hk1; have n0_ := Aside0.mk (RB.step HP.out hb); clear HP hb; have HP := n0_; clear n0_) | ((with_reducible refine gate_store (t := 24) (p := 2) rfl ?_); refine wpList_store_rowTo rfl 24 (.tmp 2) (.tmp 72) rfl rfl w.heap.size zR rfl rfl 24 zR HP.out.res (by kernel_rfl) rfl (rR_one _ _ _ _) ?_))
  refine bodyPost_ret (results_ct rfl _ _ w.heap.size 24 zR (0, 0) _ rfl (setRow_heap _ _ zR _ 24 (0, 0) HP.out.res) hu1 rfl (by kernel_rfl)) rfl ?_
  exact ⟨rfl, below_setRow HP.out.below (Nat.le_refl _) _⟩
set_option maxHeartbeats 8000000 in
set_option maxRecDepth 100000 in
theorem rparse_3_yes_yes (a0 : ByteArray) (w : World) (hs : a0.size < 1000000) (hb0 : 0 < a0.size) (hb1 : 1 < a0.size) (hc0 : ((a0[0]'hb0).toNat : Int) = 80) (hc1 : ((a0[1]'hb1).toNat : Int) = 32)
  (t : ByteArray) (ht : a0.extract 2 a0.size = t) (hte : 0 < t.size) (ht0 : ((t[0]'hte).toNat : Int) = 47) (p1 : ByteArray) (hp1 : t.extract 1 t.size = p1) (hpe : 0 < p1.size) (m : Nat) (hm : wrap64 ((p1.size : Int) - 1) = (m : Int)) (hml : m < p1.size) (hpl : ((p1[m]'hml).toNat : Int) = 47) (p2 : ByteArray) (hp2 : p1.extract 0 m = p2) (er : Int)
  (hck : ∀ w, Calls Tryd.prog 40 #[.agg (rR 3 p2 true true)] w fun e w' => e = .returned (.int .i64 er) ∧ Below w.heap.size w w') :
  Calls Tryd.prog 12 #[.string a0] w fun e w' => e = .returned (if er = 0 then .tuple #[.agg (rR 3 p2 true true), .int .i64 0] else .tuple #[.agg zR, .int .i64 er]) ∧ Below w.heap.size w w' := by
 have hu1 := Tryd.underlying24
 have HD := Aside0.mk (B1.start 24 w zR)
 have l1 : ((a0.size : Int) < 2) = False := eq_false (by omega)
 have l2 : (a0.size < 2) = False := eq_false (by omega)
 have l3 : ((0 : Int) < (a0.size : Int)) = True := eq_true (by omega)
 have l4 : (0 < a0.size) = True := eq_true hb0
 have l5 : ((1 : Int) < (a0.size : Int)) = True := eq_true (by omega)
 have l6 : (1 < a0.size) = True := eq_true hb1
 have l7 : ((2 : Int) ≤ (a0.size : Int)) = True := eq_true (by omega)
 have l8 : (2 ≤ a0.size) = True := eq_true hb1
 have f1 : (t.toList == []) = false := tl_ne t hte
 have f2 : (0 < t.size) = True := eq_true hte
 have f3 : ((0 : Int) < (t.size : Int)) = True := eq_true (by omega)
 have f5 : ((1 : Int) ≤ (t.size : Int)) = True := eq_true (by omega)
 have f6 : (1 ≤ t.size) = True := eq_true hte
 have g2 : (m < p1.size) = True := eq_true hml
 have g3 : ((m : Int) < (p1.size : Int)) = True := eq_true (by omega)
 have g5 : (m ≤ p1.size) = True := eq_true (Nat.le_of_lt hml)
 have g6 : ((m : Int) ≤ (p1.size : Int)) = True := eq_true (by omega)
 have g0 : (0 < p1.size) = True := eq_true hpe
 have g1 : ((0 : Int) < (p1.size : Int)) = True := eq_true (by omega)
 by_cases hz : er = 0
 ·subst hz
  rw [if_pos rfl]
  go_enter Tryd.func12, Tryd.ntmps12
  go_wp2_with (first | ((with_reducible refine gate_store (t := 24) (p := 4) rfl ?_); refine store_event rfl rfl rfl (store_runR _ _ 24 zR (rR 0 t false false) (RB.of0 w).box (.tmp 4) (.tmp 18) rfl rfl rfl (by kernel_rfl) rfl (rR_one _ _ _ _)) ?_; intro w8 hw8; have HP := Aside0.mk (show RB w w8 (w.heap.size + 1) (rR 0 t false false) from by rw [hw8]; exact RB.row_ (RB.of0 w) (rR 0 t false false)); clear hw8 HD; have hk1 := blk_cell HP.out.box 1; change _ = some (Value.string t) at hk1) | ((with_reducible refine gate_store (t := 3) (p := 30) rfl ?_); refine store_event rfl rfl rfl (store_cellR _ HP.out.box 0 3 (.int .i64 3) (.tmp 30) (.const (.int .i64 3)) rfl rfl rfl (by kernel_rfl) (show 0 < 4 by decide) rfl) ?_; intro w8 hw8; have n0_ := Aside0.mk (show RB w w8 (w.heap.size + 1) (rR 3 t false false) from by rw [hw8]; exact RB.put HP.out 0 _ _ rfl); clear hw8 HP hk1; have HP := n0_; clear n0_; have hk1 := blk_cell HP.out.box 1; change _ = some (Value.string t) at hk1) | ((with_reducible refine gate_store (t := 4) (p := 43) rfl ?_); refine store_event rfl rfl rfl (store_cellR _ HP.out.box 3 4 (.bool true) (.tmp 43) (.const (.bool true)) rfl rfl rfl (by kernel_rfl) (show 3 < 4 by decide) rfl) ?_; intro w8 hw8; have n0_ := Aside0.mk (show RB w w8 (w.heap.size + 1) (rR 3 t false true) from by rw [hw8]; exact RB.put HP.out 3 _ _ rfl); clear hw8 HP hk1; have HP := n0_; clear n0_; have hk1 := blk_cell HP.out.box 1; change _ = some (Value.string t) at hk1) | ((with_reducible refine gate_store (t := 9) (p := 47) rfl ?_); refine store_event rfl rfl rfl (store_cellR _ HP.out.box 1 9 (.string p1) (.tmp 47) (.tmp 46) rfl rfl rfl (by kernel_rfl) (show 1 < 4 by decide) rfl) ?_; intro w8 hw8; have n0_ := Aside0.mk (show RB w w8 (w.heap.size + 1) (rR 3 p1 false true) from by rw [hw8]; exact RB.put HP.out 1 _ _ rfl); clear hw8 HP hk1; have HP := n0_; clear n0_; have hk1 := blk_cell HP.out.box 1; change _ = some (Value.string p1) at hk1) | ((with_reducible refine gate_store (t := 4) (p := 61) rfl ?_); refine store_event rfl rfl rfl (store_cellR _ HP.out.box 2 4 (.bool true) (.tmp 61) (.const (.bool true)) rfl rfl rfl (by kernel_rfl) (show 2 < 4 by decide) rfl) ?_; intro w8 hw8; have n0_ := Aside0.mk (show RB w w8 (w.heap.size + 1) (rR 3 p1 true true) from by rw [hw8]; exact RB.put HP.out 2 _ _ rfl); clear hw8 HP hk1; have HP := n0_; clear n0_; have hk1 := blk_cell HP.out.box 1; change _ = some (Value.string p1) at hk1) | ((with_reducible refine gate_store (t := 9) (p := 67) rfl ?_); refine store_event rfl rfl rfl (store_cellR _ HP.out.box 1 9 (.string p2) (.tmp 67) (.tmp 66) rfl rfl rfl (by kernel_rfl) (show 1 < 4 by decide) rfl) ?_; intro w8 hw8; have n0_ := Aside0.mk (show RB w w8 (w.heap.size + 1) (rR 3 p2 true true) from by rw [hw8]; exact RB.put HP.out 1 _ _ rfl); clear hw8 HP hk1; have HP := n0_; clear n0_; have hk1 := blk_cell HP.out.box 1; change _ = some (Value.string p2) at hk1) | ((with_reducible refine gate_dst (N := 68) rfl ?_); refine wpList_load_row rfl 24 (.tmp 4) rfl _ rfl 24 (rR 3 p2 true true) (0, 0) _ HP.out.box hu1 rfl (by kernel_rfl) ?_) | (go_at_call 40; (with_reducible refine (hck _).mono ?_); rintro e w4 ⟨rfl, hb⟩; clear hk1; have n0_ := Aside0.mk (RB.step HP.out hb); clear HP hb; have HP := n0_; clear n0_) | ((with_reducible refine gate_dst (N := 74) rfl ?_); refine wpList_load_row rfl 24 (.tmp 4) rfl _ rfl 24 (rR 3 p2 true true) (0, 0) _ HP.out.box hu1 rfl (by kernel_rfl) ?_) | ((with_reducible refine gate_store (t := 24) (p := 2) rfl ?_); refine wpList_store_rowTo rfl 24 (.tmp 2) (.tmp 74) rfl rfl w.heap.size (rR 3 p2 true true) rfl rfl 24 zR HP.out.res (by kernel_rfl) rfl (rR_one _ _ _ _) ?_))
  refine bodyPost_ret (results_ct rfl _ _ w.heap.size 24 (rR 3 p2 true true) (0, 0) _ rfl (setRow_heap _ _ zR _ 24 (0, 0) HP.out.res) hu1 rfl (by kernel_rfl)) rfl ?_
  exact ⟨rfl, below_setRow HP.out.below (Nat.le_refl _) _⟩
 ·rw [if_neg hz]
  have q1 : (er != 0) = true := bne_iff_ne.2 hz
  go_enter Tryd.func12, Tryd.ntmps12
  go_wp2_with (first | ((with_reducible refine gate_store (t := 24) (p := 4) rfl ?_); refine store_event rfl rfl rfl (store_runR _ _ 24 zR (rR 0 t false false) (RB.of0 w).box (.tmp 4) (.tmp 18) rfl rfl rfl (by kernel_rfl) rfl (rR_one _ _ _ _)) ?_; intro w8 hw8; have HP := Aside0.mk (show RB w w8 (w.heap.size + 1) (rR 0 t false false) from by rw [hw8]; exact RB.row_ (RB.of0 w) (rR 0 t false false)); clear hw8 HD; have hk1 := blk_cell HP.out.box 1; change _ = some (Value.string t) at hk1) | ((with_reducible refine gate_store (t := 3) (p := 30) rfl ?_); refine store_event rfl rfl rfl (store_cellR _ HP.out.box 0 3 (.int .i64 3) (.tmp 30) (.const (.int .i64 3)) rfl rfl rfl (by kernel_rfl) (show 0 < 4 by decide) rfl) ?_; intro w8 hw8; have n0_ := Aside0.mk (show RB w w8 (w.heap.size + 1) (rR 3 t false false) from by rw [hw8]; exact RB.put HP.out 0 _ _ rfl); clear hw8 HP hk1; have HP := n0_; clear n0_; have hk1 := blk_cell HP.out.box 1; change _ = some (Value.string t) at hk1) | ((with_reducible refine gate_store (t := 4) (p := 43) rfl ?_); refine store_event rfl rfl rfl (store_cellR _ HP.out.box 3 4 (.bool true) (.tmp 43) (.const (.bool true)) rfl rfl rfl (by kernel_rfl) (show 3 < 4 by decide) rfl) ?_; intro w8 hw8; have n0_ := Aside0.mk (show RB w w8 (w.heap.size + 1) (rR 3 t false true) from by rw [hw8]; exact RB.put HP.out 3 _ _ rfl); clear hw8 HP hk1; have HP := n0_; clear n0_; have hk1 := blk_cell HP.out.box 1; change _ = some (Value.string t) at hk1) | ((with_reducible refine gate_store (t := 9) (p := 47) rfl ?_); refine store_event rfl rfl rfl (store_cellR _ HP.out.box 1 9 (.string p1) (.tmp 47) (.tmp 46) rfl rfl rfl (by kernel_rfl) (show 1 < 4 by decide) rfl) ?_; intro w8 hw8; have n0_ := Aside0.mk (show RB w w8 (w.heap.size + 1) (rR 3 p1 false true) from by rw [hw8]; exact RB.put HP.out 1 _ _ rfl); clear hw8 HP hk1; have HP := n0_; clear n0_; have hk1 := blk_cell HP.out.box 1; change _ = some (Value.string p1) at hk1) | ((with_reducible refine gate_store (t := 4) (p := 61) rfl ?_); refine store_event rfl rfl rfl (store_cellR _ HP.out.box 2 4 (.bool true) (.tmp 61) (.const (.bool true)) rfl rfl rfl (by kernel_rfl) (show 2 < 4 by decide) rfl) ?_; intro w8 hw8; have n0_ := Aside0.mk (show RB w w8 (w.heap.size + 1) (rR 3 p1 true true) from by rw [hw8]; exact RB.put HP.out 2 _ _ rfl); clear hw8 HP hk1; have HP := n0_; clear n0_; have hk1 := blk_cell HP.out.box 1; change _ = some (Value.string p1) at hk1) | ((with_reducible refine gate_store (t := 9) (p := 67) rfl ?_); refine store_event rfl rfl rfl (store_cellR _ HP.out.box 1 9 (.string p2) (.tmp 67) (.tmp 66) rfl rfl rfl (by kernel_rfl) (show 1 < 4 by decide) rfl) ?_; intro w8 hw8; have n0_ := Aside0.mk (show RB w w8 (w.heap.size + 1) (rR 3 p2 true true) from by rw [hw8]; exact RB.put HP.out 1 _ _ rfl); clear hw8 HP hk1; have HP := n0_; clear n0_; have hk1 := blk_cell HP.out.box 1; change _ = some (Value.string p2) at hk1) | ((with_reducible refine gate_dst (N := 68) rfl ?_); refine wpList_load_row rfl 24 (.tmp 4) rfl _ rfl 24 (rR 3 p2 true true) (0, 0) _ HP.out.box hu1 rfl (by kernel_rfl) ?_) | (go_at_call 40; (with_reducible refine (hck _).mono ?_); rintro e w4 ⟨rfl, hb⟩; clear hk1; have n0_ := Aside0.mk (RB.step HP.out hb); clear HP hb; have HP := n0_; clear n0_) | ((with_reducible refine gate_store (t := 24) (p := 2) rfl ?_); refine wpList_store_rowTo rfl 24 (.tmp 2) (.tmp 72) rfl rfl w.heap.size zR rfl rfl 24 zR HP.out.res (by kernel_rfl) rfl (rR_one _ _ _ _) ?_))
  refine bodyPost_ret (results_ct rfl _ _ w.heap.size 24 zR (0, 0) _ rfl (setRow_heap _ _ zR _ 24 (0, 0) HP.out.res) hu1 rfl (by kernel_rfl)) rfl ?_
  exact ⟨rfl, below_setRow HP.out.below (Nat.le_refl _) _⟩
set_option maxHeartbeats 8000000 in
set_option maxRecDepth 100000 in
theorem rparse_4_empty_empty (a0 : ByteArray) (w : World) (hs : a0.size < 1000000) (hb0 : 0 < a0.size) (hb1 : 1 < a0.size) (hc0 : ((a0[0]'hb0).toNat : Int) = 82) (hc1 : ((a0[1]'hb1).toNat : Int) = 32)
  (t : ByteArray) (ht : a0.extract 2 a0.size = t) (hte : t.size = 0) (er : Int)
  (hck : ∀ w, Calls Tryd.prog 40 #[.agg (rR 4 t false false)] w fun e w' => e = .returned (.int .i64 er) ∧ Below w.heap.size w w') :
  Calls Tryd.prog 12 #[.string a0] w fun e w' => e = .returned (if er = 0 then .tuple #[.agg (rR 4 t false false), .int .i64 0] else .tuple #[.agg zR, .int .i64 er]) ∧ Below w.heap.size w w' := by
 have hu1 := Tryd.underlying24
 have HD := Aside0.mk (B1.start 24 w zR)
 have l1 : ((a0.size : Int) < 2) = False := eq_false (by omega)
 have l2 : (a0.size < 2) = False := eq_false (by omega)
 have l3 : ((0 : Int) < (a0.size : Int)) = True := eq_true (by omega)
 have l4 : (0 < a0.size) = True := eq_true hb0
 have l5 : ((1 : Int) < (a0.size : Int)) = True := eq_true (by omega)
 have l6 : (1 < a0.size) = True := eq_true hb1
 have l7 : ((2 : Int) ≤ (a0.size : Int)) = True := eq_true (by omega)
 have l8 : (2 ≤ a0.size) = True := eq_true hb1
 have f1 : t.toList = [] := by rw [ByteArray.toList_eq]; exact List.eq_nil_of_length_eq_zero (by rw [Array.length_toList]; exact hte)
 have g1 : (t.size : Int) = 0 := by omega
 by_cases hz : er = 0
 ·subst hz
  rw [if_pos rfl]
  go_enter Tryd.func12, Tryd.ntmps12
  go_wp2_with (first | ((with_reducible refine gate_store (t := 24) (p := 4) rfl ?_); refine store_event rfl rfl rfl (store_runR _ _ 24 zR (rR 0 t false false) (RB.of0 w).box (.tmp 4) (.tmp 18) rfl rfl rfl (by kernel_rfl) rfl (rR_one _ _ _ _)) ?_; intro w8 hw8; have HP := Aside0.mk (show RB w w8 (w.heap.size + 1) (rR 0 t false false) from by rw [hw8]; exact RB.row_ (RB.of0 w) (rR 0 t false false)); clear hw8 HD; have hk1 := blk_cell HP.out.box 1; change _ = some (Value.string t) at hk1) | ((with_reducible refine gate_store (t := 3) (p := 33) rfl ?_); refine store_event rfl rfl rfl (store_cellR _ HP.out.box 0 3 (.int .i64 4) (.tmp 33) (.const (.int .i64 4)) rfl rfl rfl (by kernel_rfl) (show 0 < 4 by decide) rfl) ?_; intro w8 hw8; have n0_ := Aside0.mk (show RB w w8 (w.heap.size + 1) (rR 4 t false false) from by rw [hw8]; exact RB.put HP.out 0 _ _ rfl); clear hw8 HP hk1; have HP := n0_; clear n0_; have hk1 := blk_cell HP.out.box 1; change _ = some (Value.string t) at hk1) | ((with_reducible refine gate_dst (N := 68) rfl ?_); refine wpList_load_row rfl 24 (.tmp 4) rfl _ rfl 24 (rR 4 t false false) (0, 0) _ HP.out.box hu1 rfl (by kernel_rfl) ?_) | (go_at_call 40; (with_reducible refine (hck _).mono ?_); rintro e w4 ⟨rfl, hb⟩; clear hk1; have n0_ := Aside0.mk (RB.step HP.out hb); clear HP hb; have HP := n0_; clear n0_) | ((with_reducible refine gate_dst (N := 74) rfl ?_); refine wpList_load_row rfl 24 (.tmp 4) rfl _ rfl 24 (rR 4 t false false) (0, 0) _ HP.out.box hu1 rfl (by kernel_rfl) ?_) | ((with_reducible refine gate_store (t := 24) (p := 2) rfl ?_); refine wpList_store_rowTo rfl 24 (.tmp 2) (.tmp 74) rfl rfl w.heap.size (rR 4 t false false) rfl rfl 24 zR HP.out.res (by kernel_rfl) rfl (rR_one _ _ _ _) ?_))
  refine bodyPost_ret (results_ct rfl _ _ w.heap.size 24 (rR 4 t false false) (0, 0) _ rfl (setRow_heap _ _ zR _ 24 (0, 0) HP.out.res) hu1 rfl (by kernel_rfl)) rfl ?_
  exact ⟨rfl, below_setRow HP.out.below (Nat.le_refl _) _⟩
 ·rw [if_neg hz]
  have q1 : (er != 0) = true := bne_iff_ne.2 hz
  go_enter Tryd.func12, Tryd.ntmps12
  go_wp2_with (first | ((with_reducible refine gate_store (t := 24) (p := 4) rfl ?_); refine store_event rfl rfl rfl (store_runR _ _ 24 zR (rR 0 t false false) (RB.of0 w).box (.tmp 4) (.tmp 18) rfl rfl rfl (by kernel_rfl) rfl (rR_one _ _ _ _)) ?_; intro w8 hw8; have HP := Aside0.mk (show RB w w8 (w.heap.size + 1) (rR 0 t false false) from by rw [hw8]; exact RB.row_ (RB.of0 w) (rR 0 t false false)); clear hw8 HD; have hk1 := blk_cell HP.out.box 1; change _ = some (Value.string t) at hk1) | ((with_reducible refine gate_store (t := 3) (p := 33) rfl ?_); refine store_event rfl rfl rfl (store_cellR _ HP.out.box 0 3 (.int .i64 4) (.tmp 33) (.const (.int .i64 4)) rfl rfl rfl (by kernel_rfl) (show 0 < 4 by decide) rfl) ?_; intro w8 hw8; have n0_ := Aside0.mk (show RB w w8 (w.heap.size + 1) (rR 4 t false false) from by rw [hw8]; exact RB.put HP.out 0 _ _ rfl); clear hw8 HP hk1; have HP := n0_; clear n0_; have hk1 := blk_cell HP.out.box 1; change _ = some (Value.string t) at hk1) | ((with_reducible refine gate_dst (N := 68) rfl ?_); refine wpList_load_row rfl 24 (.tmp 4) rfl _ rfl 24 (rR 4 t false false) (0, 0) _ HP.out.box hu1 rfl (by kernel_rfl) ?_) | (go_at_call 40; (with_reducible refine (hck _).mono ?_); rintro e w4 ⟨rfl, hb⟩; clear hk1; have n0_ := Aside0.mk (RB.step HP.out hb); clear HP hb; have HP := n0_; clear n0_) | ((with_reducible refine gate_store (t := 24) (p := 2) rfl ?_); refine wpList_store_rowTo rfl 24 (.tmp 2) (.tmp 72) rfl rfl w.heap.size zR rfl rfl 24 zR HP.out.res (by kernel_rfl) rfl (rR_one _ _ _ _) ?_))
  refine bodyPost_ret (results_ct rfl _ _ w.heap.size 24 zR (0, 0) _ rfl (setRow_heap _ _ zR _ 24 (0, 0) HP.out.res) hu1 rfl (by kernel_rfl)) rfl ?_
  exact ⟨rfl, below_setRow HP.out.below (Nat.le_refl _) _⟩
set_option maxHeartbeats 8000000 in
set_option maxRecDepth 100000 in
theorem rparse_4_no_no (a0 : ByteArray) (w : World) (hs : a0.size < 1000000) (hb0 : 0 < a0.size) (hb1 : 1 < a0.size) (hc0 : ((a0[0]'hb0).toNat : Int) = 82) (hc1 : ((a0[1]'hb1).toNat : Int) = 32)
  (t : ByteArray) (ht : a0.extract 2 a0.size = t) (hte : 0 < t.size) (ht0 : ¬ ((t[0]'hte).toNat : Int) = 47) (m : Nat) (hm : wrap64 ((t.size : Int) - 1) = (m : Int)) (hml : m < t.size) (hpl : ¬ ((t[m]'hml).toNat : Int) = 47) (er : Int)
  (hck : ∀ w, Calls Tryd.prog 40 #[.agg (rR 4 t false false)] w fun e w' => e = .returned (.int .i64 er) ∧ Below w.heap.size w w') :
  Calls Tryd.prog 12 #[.string a0] w fun e w' => e = .returned (if er = 0 then .tuple #[.agg (rR 4 t false false), .int .i64 0] else .tuple #[.agg zR, .int .i64 er]) ∧ Below w.heap.size w w' := by
 have hu1 := Tryd.underlying24
 have HD := Aside0.mk (B1.start 24 w zR)
 have l1 : ((a0.size : Int) < 2) = False := eq_false (by omega)
 have l2 : (a0.size < 2) = False := eq_false (by omega)
 have l3 : ((0 : Int) < (a0.size : Int)) = True := eq_true (by omega)
 have l4 : (0 < a0.size) = True := eq_true hb0
 have l5 : ((1 : Int) < (a0.size : Int)) = True := eq_true (by omega)
 have l6 : (1 < a0.size) = True := eq_true hb1
 have l7 : ((2 : Int) ≤ (a0.size : Int)) = True := eq_true (by omega)
 have l8 : (2 ≤ a0.size) = True := eq_true hb1
 have f1 : (t.toList == []) = false := tl_ne t hte
 have f2 : (0 < t.size) = True := eq_true hte
 have f3 : ((0 : Int) < (t.size : Int)) = True := eq_true (by omega)
 have f4 : (((t[0]'hte).toNat : Int) == 47) = false := beq_eq_false_iff_ne.2 ht0
 have g2 : (m < t.size) = True := eq_true hml
 have g3 : ((m : Int) < (t.size : Int)) = True := eq_true (by omega)
 have g5 : (m ≤ t.size) = True := eq_true (Nat.le_of_lt hml)
 have g6 : ((m : Int) ≤ (t.size : Int)) = True := eq_true (by omega)
 have g4 : (((t[m]'hml).toNat : Int) == 47) = false := beq_eq_false_iff_ne.2 hpl
 have g0 : (0 < t.size) = True := eq_true hte
 have g1 : ((0 : Int) < (t.size : Int)) = True := eq_true (by omega)
 by_cases hz : er = 0
 ·subst hz
  rw [if_pos rfl]
  go_enter Tryd.func12, Tryd.ntmps12
  go_wp2_with (first | ((with_reducible refine gate_store (t := 24) (p := 4) rfl ?_); refine store_event rfl rfl rfl (store_runR _ _ 24 zR (rR 0 t false false) (RB.of0 w).box (.tmp 4) (.tmp 18) rfl rfl rfl (by kernel_rfl) rfl (rR_one _ _ _ _)) ?_; intro w8 hw8; have HP := Aside0.mk (show RB w w8 (w.heap.size + 1) (rR 0 t false false) from by rw [hw8]; exact RB.row_ (RB.of0 w) (rR 0 t false false)); clear hw8 HD; have hk1 := blk_cell HP.out.box 1; change _ = some (Value.string t) at hk1) | ((with_reducible refine gate_store (t := 3) (p := 33) rfl ?_); refine store_event rfl rfl rfl (store_cellR _ HP.out.box 0 3 (.int .i64 4) (.tmp 33) (.const (.int .i64 4)) rfl rfl rfl (by kernel_rfl) (show 0 < 4 by decide) rfl) ?_; intro w8 hw8; have n0_ := Aside0.mk (show RB w w8 (w.heap.size + 1) (rR 4 t false false) from by rw [hw8]; exact RB.put HP.out 0 _ _ rfl); clear hw8 HP hk1; have HP := n0_; clear n0_; have hk1 := blk_cell HP.out.box 1; change _ = some (Value.string t) at hk1) | ((with_reducible refine gate_dst (N := 68) rfl ?_); refine wpList_load_row rfl 24 (.tmp 4) rfl _ rfl 24 (rR 4 t false false) (0, 0) _ HP.out.box hu1 rfl (by kernel_rfl) ?_) | (go_at_call 40; (with_reducible refine (hck _).mono ?_); rintro e w4 ⟨rfl, hb⟩; clear hk1; have n0_ := Aside0.mk (RB.step HP.out hb); clear HP hb; have HP := n0_; clear n0_) | ((with_reducible refine gate_dst (N := 74) rfl ?_); refine wpList_load_row rfl 24 (.tmp 4) rfl _ rfl 24 (rR 4 t false false) (0, 0) _ HP.out.box hu1 rfl (by kernel_rfl) ?_) | ((with_reducible refine gate_store (t := 24) (p := 2) rfl ?_); refine wpList_store_rowTo rfl 24 (.tmp 2) (.tmp 74) rfl rfl w.heap.size (rR 4 t false false) rfl rfl 24 zR HP.out.res (by kernel_rfl) rfl (rR_one _ _ _ _) ?_))
  refine bodyPost_ret (results_ct rfl _ _ w.heap.size 24 (rR 4 t false false) (0, 0) _ rfl (setRow_heap _ _ zR _ 24 (0, 0) HP.out.res) hu1 rfl (by kernel_rfl)) rfl ?_
  exact ⟨rfl, below_setRow HP.out.below (Nat.le_refl _) _⟩
 ·rw [if_neg hz]
  have q1 : (er != 0) = true := bne_iff_ne.2 hz
  go_enter Tryd.func12, Tryd.ntmps12
  go_wp2_with (first | ((with_reducible refine gate_store (t := 24) (p := 4) rfl ?_); refine store_event rfl rfl rfl (store_runR _ _ 24 zR (rR 0 t false false) (RB.of0 w).box (.tmp 4) (.tmp 18) rfl rfl rfl (by kernel_rfl) rfl (rR_one _ _ _ _)) ?_; intro w8 hw8; have HP := Aside0.mk (show RB w w8 (w.heap.size + 1) (rR 0 t false false) from by rw [hw8]; exact RB.row_ (RB.of0 w) (rR 0 t false false)); clear hw8 HD; have hk1 := blk_cell HP.out.box 1; change _ = some (Value.string t) at hk1) | ((with_reducible refine gate_store (t := 3) (p := 33) rfl ?_); refine store_event rfl rfl rfl (store_cellR _ HP.out.box 0 3 (.int .i64 4) (.tmp 33) (.const (.int .i64 4)) rfl rfl rfl (by kernel_rfl) (show 0 < 4 by decide) rfl) ?_; intro w8 hw8; have n0_ := Aside0.mk (show RB w w8 (w.heap.size + 1) (rR 4 t false false) from by rw [hw8]; exact RB.put HP.out 0 _ _ rfl); clear hw8 HP hk1; have HP := n0_; clear n0_; have hk1 := blk_cell HP.out.box 1; change _ = some (Value.string t) at hk1) | ((with_reducible refine gate_dst (N := 68) rfl ?_); refine wpList_load_row rfl 24 (.tmp 4) rfl _ rfl 24 (rR 4 t false false) (0, 0) _ HP.out.box hu1 rfl (by kernel_rfl) ?_) | (go_at_call 40; (with_reducible refine (hck _).mono ?_); rintro e w4 ⟨rfl, hb⟩; clear hk1; have n0_ := Aside0.mk (RB.step HP.out hb); clear HP hb; have HP := n0_; clear n0_) | ((with_reducible refine gate_store (t := 24) (p := 2) rfl ?_); refine wpList_store_rowTo rfl 24 (.tmp 2) (.tmp 72) rfl rfl w.heap.size zR rfl rfl 24 zR HP.out.res (by kernel_rfl) rfl (rR_one _ _ _ _) ?_))
  refine bodyPost_ret (results_ct rfl _ _ w.heap.size 24 zR (0, 0) _ rfl (setRow_heap _ _ zR _ 24 (0, 0) HP.out.res) hu1 rfl (by kernel_rfl)) rfl ?_
  exact ⟨rfl, below_setRow HP.out.below (Nat.le_refl _) _⟩
set_option maxHeartbeats 8000000 in
set_option maxRecDepth 100000 in
theorem rparse_4_no_yes (a0 : ByteArray) (w : World) (hs : a0.size < 1000000) (hb0 : 0 < a0.size) (hb1 : 1 < a0.size) (hc0 : ((a0[0]'hb0).toNat : Int) = 82) (hc1 : ((a0[1]'hb1).toNat : Int) = 32)
  (t : ByteArray) (ht : a0.extract 2 a0.size = t) (hte : 0 < t.size) (ht0 : ¬ ((t[0]'hte).toNat : Int) = 47) (m : Nat) (hm : wrap64 ((t.size : Int) - 1) = (m : Int)) (hml : m < t.size) (hpl : ((t[m]'hml).toNat : Int) = 47) (p2 : ByteArray) (hp2 : t.extract 0 m = p2) (er : Int)
  (hck : ∀ w, Calls Tryd.prog 40 #[.agg (rR 4 p2 true false)] w fun e w' => e = .returned (.int .i64 er) ∧ Below w.heap.size w w') :
  Calls Tryd.prog 12 #[.string a0] w fun e w' => e = .returned (if er = 0 then .tuple #[.agg (rR 4 p2 true false), .int .i64 0] else .tuple #[.agg zR, .int .i64 er]) ∧ Below w.heap.size w w' := by
 have hu1 := Tryd.underlying24
 have HD := Aside0.mk (B1.start 24 w zR)
 have l1 : ((a0.size : Int) < 2) = False := eq_false (by omega)
 have l2 : (a0.size < 2) = False := eq_false (by omega)
 have l3 : ((0 : Int) < (a0.size : Int)) = True := eq_true (by omega)
 have l4 : (0 < a0.size) = True := eq_true hb0
 have l5 : ((1 : Int) < (a0.size : Int)) = True := eq_true (by omega)
 have l6 : (1 < a0.size) = True := eq_true hb1
 have l7 : ((2 : Int) ≤ (a0.size : Int)) = True := eq_true (by omega)
 have l8 : (2 ≤ a0.size) = True := eq_true hb1
 have f1 : (t.toList == []) = false := tl_ne t hte
 have f2 : (0 < t.size) = True := eq_true hte
 have f3 : ((0 : Int) < (t.size : Int)) = True := eq_true (by omega)
 have f4 : (((t[0]'hte).toNat : Int) == 47) = false := beq_eq_false_iff_ne.2 ht0
 have g2 : (m < t.size) = True := eq_true hml
 have g3 : ((m : Int) < (t.size : Int)) = True := eq_true (by omega)
 have g5 : (m ≤ t.size) = True := eq_true (Nat.le_of_lt hml)
 have g6 : ((m : Int) ≤ (t.size : Int)) = True := eq_true (by omega)
 have g0 : (0 < t.size) = True := eq_true hte
 have g1 : ((0 : Int) < (t.size : Int)) = True := eq_true (by omega)
 by_cases hz : er = 0
 ·subst hz
  rw [if_pos rfl]
  go_enter Tryd.func12, Tryd.ntmps12
  go_wp2_with (first | ((with_reducible refine gate_store (t := 24) (p := 4) rfl ?_); refine store_event rfl rfl rfl (store_runR _ _ 24 zR (rR 0 t false false) (RB.of0 w).box (.tmp 4) (.tmp 18) rfl rfl rfl (by kernel_rfl) rfl (rR_one _ _ _ _)) ?_; intro w8 hw8; have HP := Aside0.mk (show RB w w8 (w.heap.size + 1) (rR 0 t false false) from by rw [hw8]; exact RB.row_ (RB.of0 w) (rR 0 t false false)); clear hw8 HD; have hk1 := blk_cell HP.out.box 1; change _ = some (Value.string t) at hk1) | ((with_reducible refine gate_store (t := 3) (p := 33) rfl ?_); refine store_event rfl rfl rfl (store_cellR _ HP.out.box 0 3 (.int .i64 4) (.tmp 33) (.const (.int .i64 4)) rfl rfl rfl (by kernel_rfl) (show 0 < 4 by decide) rfl) ?_; intro w8 hw8; have n0_ := Aside0.mk (show RB w w8 (w.heap.size + 1) (rR 4 t false false) from by rw [hw8]; exact RB.put HP.out 0 _ _ rfl); clear hw8 HP hk1; have HP := n0_; clear n0_; have hk1 := blk_cell HP.out.box 1; change _ = some (Value.string t) at hk1) | ((with_reducible refine gate_store (t := 4) (p := 61) rfl ?_); refine store_event rfl rfl rfl (store_cellR _ HP.out.box 2 4 (.bool true) (.tmp 61) (.const (.bool true)) rfl rfl rfl (by kernel_rfl) (show 2 < 4 by decide) rfl) ?_; intro w8 hw8; have n0_ := Aside0.mk (show RB w w8 (w.heap.size + 1) (rR 4 t true false) from by rw [hw8]; exact RB.put HP.out 2 _ _ rfl); clear hw8 HP hk1; have HP := n0_; clear n0_; have hk1 := blk_cell HP.out.box 1; change _ = some (Value.string t) at hk1) | ((with_reducible refine gate_store (t := 9) (p := 67) rfl ?_); refine store_event rfl rfl rfl (store_cellR _ HP.out.box 1 9 (.string p2) (.tmp 67) (.tmp 66) rfl rfl rfl (by kernel_rfl) (show 1 < 4 by decide) rfl) ?_; intro w8 hw8; have n0_ := Aside0.mk (show RB w w8 (w.heap.size + 1) (rR 4 p2 true false) from by rw [hw8]; exact RB.put HP.out 1 _ _ rfl); clear hw8 HP hk1; have HP := n0_; clear n0_; have hk1 := blk_cell HP.out.box 1; change _ = some (Value.string p2) at hk1) | ((with_reducible refine gate_dst (N := 68) rfl ?_); refine wpList_load_row rfl 24 (.tmp 4) rfl _ rfl 24 (rR 4 p2 true false) (0, 0) _ HP.out.box hu1 rfl (by kernel_rfl) ?_) | (go_at_call 40; (with_reducible refine (hck _).mono ?_); rintro e w4 ⟨rfl, hb⟩; clear hk1; have n0_ := Aside0.mk (RB.step HP.out hb); clear HP hb; have HP := n0_; clear n0_) | ((with_reducible refine gate_dst (N := 74) rfl ?_); refine wpList_load_row rfl 24 (.tmp 4) rfl _ rfl 24 (rR 4 p2 true false) (0, 0) _ HP.out.box hu1 rfl (by kernel_rfl) ?_) | ((with_reducible refine gate_store (t := 24) (p := 2) rfl ?_); refine wpList_store_rowTo rfl 24 (.tmp 2) (.tmp 74) rfl rfl w.heap.size (rR 4 p2 true false) rfl rfl 24 zR HP.out.res (by kernel_rfl) rfl (rR_one _ _ _ _) ?_))
  refine bodyPost_ret (results_ct rfl _ _ w.heap.size 24 (rR 4 p2 true false) (0, 0) _ rfl (setRow_heap _ _ zR _ 24 (0, 0) HP.out.res) hu1 rfl (by kernel_rfl)) rfl ?_
  exact ⟨rfl, below_setRow HP.out.below (Nat.le_refl _) _⟩
 ·rw [if_neg hz]
  have q1 : (er != 0) = true := bne_iff_ne.2 hz
  go_enter Tryd.func12, Tryd.ntmps12
  go_wp2_with (first | ((with_reducible refine gate_store (t := 24) (p := 4) rfl ?_); refine store_event rfl rfl rfl (store_runR _ _ 24 zR (rR 0 t false false) (RB.of0 w).box (.tmp 4) (.tmp 18) rfl rfl rfl (by kernel_rfl) rfl (rR_one _ _ _ _)) ?_; intro w8 hw8; have HP := Aside0.mk (show RB w w8 (w.heap.size + 1) (rR 0 t false false) from by rw [hw8]; exact RB.row_ (RB.of0 w) (rR 0 t false false)); clear hw8 HD; have hk1 := blk_cell HP.out.box 1; change _ = some (Value.string t) at hk1) | ((with_reducible refine gate_store (t := 3) (p := 33) rfl ?_); refine store_event rfl rfl rfl (store_cellR _ HP.out.box 0 3 (.int .i64 4) (.tmp 33) (.const (.int .i64 4)) rfl rfl rfl (by kernel_rfl) (show 0 < 4 by decide) rfl) ?_; intro w8 hw8; have n0_ := Aside0.mk (show RB w w8 (w.heap.size + 1) (rR 4 t false false) from by rw [hw8]; exact RB.put HP.out 0 _ _ rfl); clear hw8 HP hk1; have HP := n0_; clear n0_; have hk1 := blk_cell HP.out.box 1; change _ = some (Value.string t) at hk1) | ((with_reducible refine gate_store (t := 4) (p := 61) rfl ?_); refine store_event rfl rfl rfl (store_cellR _ HP.out.box 2 4 (.bool true) (.tmp 61) (.const (.bool true)) rfl rfl rfl (by kernel_rfl) (show 2 < 4 by decide) rfl) ?_; intro w8 hw8; have n0_ := Aside0.mk (show RB w w8 (w.heap.size + 1) (rR 4 t true false) from by rw [hw8]; exact RB.put HP.out 2 _ _ rfl); clear hw8 HP hk1; have HP := n0_; clear n0_; have hk1 := blk_cell HP.out.box 1; change _ = some (Value.string t) at hk1) | ((with_reducible refine gate_store (t := 9) (p := 67) rfl ?_); refine store_event rfl rfl rfl (store_cellR _ HP.out.box 1 9 (.string p2) (.tmp 67) (.tmp 66) rfl rfl rfl (by kernel_rfl) (show 1 < 4 by decide) rfl) ?_; intro w8 hw8; have n0_ := Aside0.mk (show RB w w8 (w.heap.size + 1) (rR 4 p2 true false) from by rw [hw8]; exact RB.put HP.out 1 _ _ rfl); clear hw8 HP hk1; have HP := n0_; clear n0_; have hk1 := blk_cell HP.out.box 1; change _ = some (Value.string p2) at hk1) | ((with_reducible refine gate_dst (N := 68) rfl ?_); refine wpList_load_row rfl 24 (.tmp 4) rfl _ rfl 24 (rR 4 p2 true false) (0, 0) _ HP.out.box hu1 rfl (by kernel_rfl) ?_) | (go_at_call 40; (with_reducible refine (hck _).mono ?_); rintro e w4 ⟨rfl, hb⟩; clear hk1; have n0_ := Aside0.mk (RB.step HP.out hb); clear HP hb; have HP := n0_; clear n0_) | ((with_reducible refine gate_store (t := 24) (p := 2) rfl ?_); refine wpList_store_rowTo rfl 24 (.tmp 2) (.tmp 72) rfl rfl w.heap.size zR rfl rfl 24 zR HP.out.res (by kernel_rfl) rfl (rR_one _ _ _ _) ?_))
  refine bodyPost_ret (results_ct rfl _ _ w.heap.size 24 zR (0, 0) _ rfl (setRow_heap _ _ zR _ 24 (0, 0) HP.out.res) hu1 rfl (by kernel_rfl)) rfl ?_
  exact ⟨rfl, below_setRow HP.out.below (Nat.le_refl _) _⟩
set_option maxHeartbeats 8000000 in
set_option maxRecDepth 100000 in
theorem rparse_4_yes_empty (a0 : ByteArray) (w : World) (hs : a0.size < 1000000) (hb0 : 0 < a0.size) (hb1 : 1 < a0.size) (hc0 : ((a0[0]'hb0).toNat : Int) = 82) (hc1 : ((a0[1]'hb1).toNat : Int) = 32)
  (t : ByteArray) (ht : a0.extract 2 a0.size = t) (hte : 0 < t.size) (ht0 : ((t[0]'hte).toNat : Int) = 47) (p1 : ByteArray) (hp1 : t.extract 1 t.size = p1) (hpe : p1.size = 0) (er : Int)
  (hck : ∀ w, Calls Tryd.prog 40 #[.agg (rR 4 p1 false true)] w fun e w' => e = .returned (.int .i64 er) ∧ Below w.heap.size w w') :
  Calls Tryd.prog 12 #[.string a0] w fun e w' => e = .returned (if er = 0 then .tuple #[.agg (rR 4 p1 false true), .int .i64 0] else .tuple #[.agg zR, .int .i64 er]) ∧ Below w.heap.size w w' := by
 have hu1 := Tryd.underlying24
 have HD := Aside0.mk (B1.start 24 w zR)
 have l1 : ((a0.size : Int) < 2) = False := eq_false (by omega)
 have l2 : (a0.size < 2) = False := eq_false (by omega)
 have l3 : ((0 : Int) < (a0.size : Int)) = True := eq_true (by omega)
 have l4 : (0 < a0.size) = True := eq_true hb0
 have l5 : ((1 : Int) < (a0.size : Int)) = True := eq_true (by omega)
 have l6 : (1 < a0.size) = True := eq_true hb1
 have l7 : ((2 : Int) ≤ (a0.size : Int)) = True := eq_true (by omega)
 have l8 : (2 ≤ a0.size) = True := eq_true hb1
 have f1 : (t.toList == []) = false := tl_ne t hte
 have f2 : (0 < t.size) = True := eq_true hte
 have f3 : ((0 : Int) < (t.size : Int)) = True := eq_true (by omega)
 have f5 : ((1 : Int) ≤ (t.size : Int)) = True := eq_true (by omega)
 have f6 : (1 ≤ t.size) = True := eq_true hte
 have g1 : (p1.size : Int) = 0 := by omega
 by_cases hz : er = 0
 ·subst hz
  rw [if_pos rfl]
  go_enter Tryd.func12, Tryd.ntmps12
  go_wp2_with (first | ((with_reducible refine gate_store (t := 24) (p := 4) rfl ?_); refine store_event rfl rfl rfl (store_runR _ _ 24 zR (rR 0 t false false) (RB.of0 w).box (.tmp 4) (.tmp 18) rfl rfl rfl (by kernel_rfl) rfl (rR_one _ _ _ _)) ?_; intro w8 hw8; have HP := Aside0.mk (show RB w w8 (w.heap.size + 1) (rR 0 t false false) from by rw [hw8]; exact RB.row_ (RB.of0 w) (rR 0 t false false)); clear hw8 HD; have hk1 := blk_cell HP.out.box 1; change _ = some (Value.string t) at hk1) | ((with_reducible refine gate_store (t := 3) (p := 33) rfl ?_); refine store_event rfl rfl rfl (store_cellR _ HP.out.box 0 3 (.int .i64 4) (.tmp 33) (.const (.int .i64 4)) rfl rfl rfl (by kernel_rfl) (show 0 < 4 by decide) rfl) ?_; intro w8 hw8; have n0_ := Aside0.mk (show RB w w8 (w.heap.size + 1) (rR 4 t false false) from by rw [hw8]; exact RB.put HP.out 0 _ _ rfl); clear hw8 HP hk1; have HP := n0_; clear n0_; have hk1 := blk_cell HP.out.box 1; change _ = some (Value.string t) at hk1) | ((with_reducible refine gate_store (t := 4) (p := 43) rfl ?_); refine store_event rfl rfl rfl (store_cellR _ HP.out.box 3 4 (.bool true) (.tmp 43) (.const (.bool true)) rfl rfl rfl (by kernel_rfl) (show 3 < 4 by decide) rfl) ?_; intro w8 hw8; have n0_ := Aside0.mk (show RB w w8 (w.heap.size + 1) (rR 4 t false true) from by rw [hw8]; exact RB.put HP.out 3 _ _ rfl); clear hw8 HP hk1; have HP := n0_; clear n0_; have hk1 := blk_cell HP.out.box 1; change _ = some (Value.string t) at hk1) | ((with_reducible refine gate_store (t := 9) (p := 47) rfl ?_); refine store_event rfl rfl rfl (store_cellR _ HP.out.box 1 9 (.string p1) (.tmp 47) (.tmp 46) rfl rfl rfl (by kernel_rfl) (show 1 < 4 by decide) rfl) ?_; intro w8 hw8; have n0_ := Aside0.mk (show RB w w8 (w.heap.size + 1) (rR 4 p1 false true) from by rw [hw8]; exact RB.put HP.out 1 _ _ rfl); clear hw8 HP hk1; have HP := n0_; clear n0_; have hk1 := blk_cell HP.out.box 1; change _ = some (Value.string p1) at hk1) | ((with_reducible refine gate_dst (N := 68) rfl ?_); refine wpList_load_row rfl 24 (.tmp 4) rfl _ rfl 24 (rR 4 p1 false true) (0, 0) _ HP.out.box hu1 rfl (by kernel_rfl) ?_) | (go_at_call 40; (with_reducible refine (hck _).mono ?_); rintro e w4 ⟨rfl, hb⟩; clear hk1; have n0_ := Aside0.mk (RB.step HP.out hb); clear HP hb; have HP := n0_; clear n0_) | ((with_reducible refine gate_dst (N := 74) rfl ?_); refine wpList_load_row rfl 24 (.tmp 4) rfl _ rfl 24 (rR 4 p1 false true) (0, 0) _ HP.out.box hu1 rfl (by kernel_rfl) ?_) | ((with_reducible refine gate_store (t := 24) (p := 2) rfl ?_); refine wpList_store_rowTo rfl 24 (.tmp 2) (.tmp 74) rfl rfl w.heap.size (rR 4 p1 false true) rfl rfl 24 zR HP.out.res (by kernel_rfl) rfl (rR_one _ _ _ _) ?_))
  refine bodyPost_ret (results_ct rfl _ _ w.heap.size 24 (rR 4 p1 false true) (0, 0) _ rfl (setRow_heap _ _ zR _ 24 (0, 0) HP.out.res) hu1 rfl (by kernel_rfl)) rfl ?_
  exact ⟨rfl, below_setRow HP.out.below (Nat.le_refl _) _⟩
 ·rw [if_neg hz]
  have q1 : (er != 0) = true := bne_iff_ne.2 hz
  go_enter Tryd.func12, Tryd.ntmps12
  go_wp2_with (first | ((with_reducible refine gate_store (t := 24) (p := 4) rfl ?_); refine store_event rfl rfl rfl (store_runR _ _ 24 zR (rR 0 t false false) (RB.of0 w).box (.tmp 4) (.tmp 18) rfl rfl rfl (by kernel_rfl) rfl (rR_one _ _ _ _)) ?_; intro w8 hw8; have HP := Aside0.mk (show RB w w8 (w.heap.size + 1) (rR 0 t false false) from by rw [hw8]; exact RB.row_ (RB.of0 w) (rR 0 t false false)); clear hw8 HD; have hk1 := blk_cell HP.out.box 1; change _ = some (Value.string t) at hk1) | ((with_reducible refine gate_store (t := 3) (p := 33) rfl ?_); refine store_event rfl rfl rfl (store_cellR _ HP.out.box 0 3 (.int .i64 4) (.tmp 33) (.const (.int .i64 4)) rfl rfl rfl (by kernel_rfl) (show 0 < 4 by decide) rfl) ?_; intro w8 hw8; have n0_ := Aside0.mk (show RB w w8 (w.heap.size + 1) (rR 4 t false false) from by rw [hw8]; exact RB.put HP.out 0 _ _ rfl); clear hw8 HP hk1; have HP := n0_; clear n0_; have hk1 := blk_cell HP.out.box 1; change _ = some (Value.string t) at hk1) | ((with_reducible refine gate_store (t := 4) (p := 43) rfl ?_); refine store_event rfl rfl rfl (store_cellR _ HP.out.box 3 4 (.bool true) (.tmp 43) (.const (.bool true)) rfl rfl rfl (by kernel_rfl) (show 3 < 4 by decide) rfl) ?_; intro w8 hw8; have n0_ := Aside0.mk (show RB w w8 (w.heap.size + 1) (rR 4 t false true) from by rw [hw8]; exact RB.put HP.out 3 _ _ rfl); clear hw8 HP hk1; have HP := n0_; clear n0_; have hk1 := blk_cell HP.out.box 1; change _ = some (Value.string t) at hk1) | ((with_reducible refine gate_store (t := 9) (p := 47) rfl ?_); refine store_event rfl rfl rfl (store_cellR _ HP.out.box 1 9 (.string p1) (.tmp 47) (.tmp 46) rfl rfl rfl (by kernel_rfl) (show 1 < 4 by decide) rfl) ?_; intro w8 hw8; have n0_ := Aside0.mk (show RB w w8 (w.heap.size + 1) (rR 4 p1 false true) from by rw [hw8]; exact RB.put HP.out 1 _ _ rfl); clear hw8 HP hk1; have HP := n0_; clear n0_; have hk1 := blk_cell HP.out.box 1; change _ = some (Value.string p1) at hk1) | ((with_reducible refine gate_dst (N := 68) rfl ?_); refine wpList_load_row rfl 24 (.tmp 4) rfl _ rfl 24 (rR 4 p1 false true) (0, 0) _ HP.out.box hu1 rfl (by kernel_rfl) ?_) | (go_at_call 40; (with_reducible refine (hck _).mono ?_); rintro e w4 ⟨rfl, hb⟩; clear hk1; have n0_ := Aside0.mk (RB.step HP.out hb); clear HP hb; have HP := n0_; clear n0_) | ((with_reducible refine gate_store (t := 24) (p := 2) rfl ?_); refine wpList_store_rowTo rfl 24 (.tmp 2) (.tmp 72) rfl rfl w.heap.size zR rfl rfl 24 zR HP.out.res (by kernel_rfl) rfl (rR_one _ _ _ _) ?_))
  refine bodyPost_ret (results_ct rfl _ _ w.heap.size 24 zR (0, 0) _ rfl (setRow_heap _ _ zR _ 24 (0, 0) HP.out.res) hu1 rfl (by kernel_rfl)) rfl ?_
  exact ⟨rfl, below_setRow HP.out.below (Nat.le_refl _) _⟩
set_option maxHeartbeats 8000000 in
set_option maxRecDepth 100000 in
theorem rparse_4_yes_no (a0 : ByteArray) (w : World) (hs : a0.size < 1000000) (hb0 : 0 < a0.size) (hb1 : 1 < a0.size) (hc0 : ((a0[0]'hb0).toNat : Int) = 82) (hc1 : ((a0[1]'hb1).toNat : Int) = 32)
  (t : ByteArray) (ht : a0.extract 2 a0.size = t) (hte : 0 < t.size) (ht0 : ((t[0]'hte).toNat : Int) = 47) (p1 : ByteArray) (hp1 : t.extract 1 t.size = p1) (hpe : 0 < p1.size) (m : Nat) (hm : wrap64 ((p1.size : Int) - 1) = (m : Int)) (hml : m < p1.size) (hpl : ¬ ((p1[m]'hml).toNat : Int) = 47) (er : Int)
  (hck : ∀ w, Calls Tryd.prog 40 #[.agg (rR 4 p1 false true)] w fun e w' => e = .returned (.int .i64 er) ∧ Below w.heap.size w w') :
  Calls Tryd.prog 12 #[.string a0] w fun e w' => e = .returned (if er = 0 then .tuple #[.agg (rR 4 p1 false true), .int .i64 0] else .tuple #[.agg zR, .int .i64 er]) ∧ Below w.heap.size w w' := by
 have hu1 := Tryd.underlying24
 have HD := Aside0.mk (B1.start 24 w zR)
 have l1 : ((a0.size : Int) < 2) = False := eq_false (by omega)
 have l2 : (a0.size < 2) = False := eq_false (by omega)
 have l3 : ((0 : Int) < (a0.size : Int)) = True := eq_true (by omega)
 have l4 : (0 < a0.size) = True := eq_true hb0
 have l5 : ((1 : Int) < (a0.size : Int)) = True := eq_true (by omega)
 have l6 : (1 < a0.size) = True := eq_true hb1
 have l7 : ((2 : Int) ≤ (a0.size : Int)) = True := eq_true (by omega)
 have l8 : (2 ≤ a0.size) = True := eq_true hb1
 have f1 : (t.toList == []) = false := tl_ne t hte
 have f2 : (0 < t.size) = True := eq_true hte
 have f3 : ((0 : Int) < (t.size : Int)) = True := eq_true (by omega)
 have f5 : ((1 : Int) ≤ (t.size : Int)) = True := eq_true (by omega)
 have f6 : (1 ≤ t.size) = True := eq_true hte
 have g2 : (m < p1.size) = True := eq_true hml
 have g3 : ((m : Int) < (p1.size : Int)) = True := eq_true (by omega)
 have g5 : (m ≤ p1.size) = True := eq_true (Nat.le_of_lt hml)
 have g6 : ((m : Int) ≤ (p1.size : Int)) = True := eq_true (by omega)
 have g4 : (((p1[m]'hml).toNat : Int) == 47) = false := beq_eq_false_iff_ne.2 hpl
 have g0 : (0 < p1.size) = True := eq_true hpe
 have g1 : ((0 : Int) < (p1.size : Int)) = True := eq_true (by omega)
 by_cases hz : er = 0
 ·subst hz
  rw [if_pos rfl]
  go_enter Tryd.func12, Tryd.ntmps12
  go_wp2_with (first | ((with_reducible refine gate_store (t := 24) (p := 4) rfl ?_); refine store_event rfl rfl rfl (store_runR _ _ 24 zR (rR 0 t false false) (RB.of0 w).box (.tmp 4) (.tmp 18) rfl rfl rfl (by kernel_rfl) rfl (rR_one _ _ _ _)) ?_; intro w8 hw8; have HP := Aside0.mk (show RB w w8 (w.heap.size + 1) (rR 0 t false false) from by rw [hw8]; exact RB.row_ (RB.of0 w) (rR 0 t false false)); clear hw8 HD; have hk1 := blk_cell HP.out.box 1; change _ = some (Value.string t) at hk1) | ((with_reducible refine gate_store (t := 3) (p := 33) rfl ?_); refine store_event rfl rfl rfl (store_cellR _ HP.out.box 0 3 (.int .i64 4) (.tmp 33) (.const (.int .i64 4)) rfl rfl rfl (by kernel_rfl) (show 0 < 4 by decide) rfl) ?_; intro w8 hw8; have n0_ := Aside0.mk (show RB w w8 (w.heap.size + 1) (rR 4 t false false) from by rw [hw8]; exact RB.put HP.out 0 _ _ rfl); clear hw8 HP hk1; have HP := n0_; clear n0_; have hk1 := blk_cell HP.out.box 1; change _ = some (Value.string t) at hk1) | ((with_reducible refine gate_store (t := 4) (p := 43) rfl ?_); refine store_event rfl rfl rfl (store_cellR _ HP.out.box 3 4 (.bool true) (.tmp 43) (.const (.bool true)) rfl rfl rfl (by kernel_rfl) (show 3 < 4 by decide) rfl) ?_; intro w8 hw8; have n0_ := Aside0.mk (show RB w w8 (w.heap.size + 1) (rR 4 t false true) from by rw [hw8]; exact RB.put HP.out 3 _ _ rfl); clear hw8 HP hk1; have HP := n0_; clear n0_; have hk1 := blk_cell HP.out.box 1; change _ = some (Value.string t) at hk1) | ((with_reducible refine gate_store (t := 9) (p := 47) rfl ?_); refine store_event rfl rfl rfl (store_cellR _ HP.out.box 1 9 (.string p1) (.tmp 47) (.tmp 46) rfl rfl rfl (by kernel_rfl) (show 1 < 4 by decide) rfl) ?_; intro w8 hw8; have n0_ := Aside0.mk (show RB w w8 (w.heap.size + 1) (rR 4 p1 false true) from by rw [hw8]; exact RB.put HP.out 1 _ _ rfl); clear hw8 HP hk1; have HP := n0_; clear n0_; have hk1 := blk_cell HP.out.box 1; change _ = some (Value.string p1) at hk1) | ((with_reducible refine gate_dst (N := 68) rfl ?_); refine wpList_load_row rfl 24 (.tmp 4) rfl _ rfl 24 (rR 4 p1 false true) (0, 0) _ HP.out.box hu1 rfl (by kernel_rfl) ?_) | (go_at_call 40; (with_reducible refine (hck _).mono ?_); rintro e w4 ⟨rfl, hb⟩; clear hk1; have n0_ := Aside0.mk (RB.step HP.out hb); clear HP hb; have HP := n0_; clear n0_) | ((with_reducible refine gate_dst (N := 74) rfl ?_); refine wpList_load_row rfl 24 (.tmp 4) rfl _ rfl 24 (rR 4 p1 false true) (0, 0) _ HP.out.box hu1 rfl (by kernel_rfl) ?_) | ((with_reducible refine gate_store (t := 24) (p := 2) rfl ?_); refine wpList_store_rowTo rfl 24 (.tmp 2) (.tmp 74) rfl rfl w.heap.size (rR 4 p1 false true) rfl rfl 24 zR HP.out.res (by kernel_rfl) rfl (rR_one _ _ _ _) ?_))
  refine bodyPost_ret (results_ct rfl _ _ w.heap.size 24 (rR 4 p1 false true) (0, 0) _ rfl (setRow_heap _ _ zR _ 24 (0, 0) HP.out.res) hu1 rfl (by kernel_rfl)) rfl ?_
  exact ⟨rfl, below_setRow HP.out.below (Nat.le_refl _) _⟩
 ·rw [if_neg hz]
  have q1 : (er != 0) = true := bne_iff_ne.2 hz
  go_enter Tryd.func12, Tryd.ntmps12
  go_wp2_with (first | ((with_reducible refine gate_store (t := 24) (p := 4) rfl ?_); refine store_event rfl rfl rfl (store_runR _ _ 24 zR (rR 0 t false false) (RB.of0 w).box (.tmp 4) (.tmp 18) rfl rfl rfl (by kernel_rfl) rfl (rR_one _ _ _ _)) ?_; intro w8 hw8; have HP := Aside0.mk (show RB w w8 (w.heap.size + 1) (rR 0 t false false) from by rw [hw8]; exact RB.row_ (RB.of0 w) (rR 0 t false false)); clear hw8 HD; have hk1 := blk_cell HP.out.box 1; change _ = some (Value.string t) at hk1) | ((with_reducible refine gate_store (t := 3) (p := 33) rfl ?_); refine store_event rfl rfl rfl (store_cellR _ HP.out.box 0 3 (.int .i64 4) (.tmp 33) (.const (.int .i64 4)) rfl rfl rfl (by kernel_rfl) (show 0 < 4 by decide) rfl) ?_; intro w8 hw8; have n0_ := Aside0.mk (show RB w w8 (w.heap.size + 1) (rR 4 t false false) from by rw [hw8]; exact RB.put HP.out 0 _ _ rfl); clear hw8 HP hk1; have HP := n0_; clear n0_; have hk1 := blk_cell HP.out.box 1; change _ = some (Value.string t) at hk1) | ((with_reducible refine gate_store (t := 4) (p := 43) rfl ?_); refine store_event rfl rfl rfl (store_cellR _ HP.out.box 3 4 (.bool true) (.tmp 43) (.const (.bool true)) rfl rfl rfl (by kernel_rfl) (show 3 < 4 by decide) rfl) ?_; intro w8 hw8; have n0_ := Aside0.mk (show RB w w8 (w.heap.size + 1) (rR 4 t false true) from by rw [hw8]; exact RB.put HP.out 3 _ _ rfl); clear hw8 HP hk1; have HP := n0_; clear n0_; have hk1 := blk_cell HP.out.box 1; change _ = some (Value.string t) at hk1) | ((with_reducible refine gate_store (t := 9) (p := 47) rfl ?_); refine store_event rfl rfl rfl (store_cellR _ HP.out.box 1 9 (.string p1) (.tmp 47) (.tmp 46) rfl rfl rfl (by kernel_rfl) (show 1 < 4 by decide) rfl) ?_; intro w8 hw8; have n0_ := Aside0.mk (show RB w w8 (w.heap.size + 1) (rR 4 p1 false true) from by rw [hw8]; exact RB.put HP.out 1 _ _ rfl); clear hw8 HP hk1; have HP := n0_; clear n0_; have hk1 := blk_cell HP.out.box 1; change _ = some (Value.string p1) at hk1) | ((with_reducible refine gate_dst (N := 68) rfl ?_); refine wpList_load_row rfl 24 (.tmp 4) rfl _ rfl 24 (rR 4 p1 false true) (0, 0) _ HP.out.box hu1 rfl (by kernel_rfl) ?_) | (go_at_call 40; (with_reducible refine (hck _).mono ?_); rintro e w4 ⟨rfl, hb⟩; clear hk1; have n0_ := Aside0.mk (RB.step HP.out hb); clear HP hb; have HP := n0_; clear n0_) | ((with_reducible refine gate_store (t := 24) (p := 2) rfl ?_); refine wpList_store_rowTo rfl 24 (.tmp 2) (.tmp 72) rfl rfl w.heap.size zR rfl rfl 24 zR HP.out.res (by kernel_rfl) rfl (rR_one _ _ _ _) ?_))
  refine bodyPost_ret (results_ct rfl _ _ w.heap.size 24 zR (0, 0) _ rfl (setRow_heap _ _ zR _ 24 (0, 0) HP.out.res) hu1 rfl (by kernel_rfl)) rfl ?_
  exact ⟨rfl, below_setRow HP.out.below (Nat.le_refl _) _⟩
set_option maxHeartbeats 8000000 in
set_option maxRecDepth 100000 in
theorem rparse_4_yes_yes (a0 : ByteArray) (w : World) (hs : a0.size < 1000000) (hb0 : 0 < a0.size) (hb1 : 1 < a0.size) (hc0 : ((a0[0]'hb0).toNat : Int) = 82) (hc1 : ((a0[1]'hb1).toNat : Int) = 32)
  (t : ByteArray) (ht : a0.extract 2 a0.size = t) (hte : 0 < t.size) (ht0 : ((t[0]'hte).toNat : Int) = 47) (p1 : ByteArray) (hp1 : t.extract 1 t.size = p1) (hpe : 0 < p1.size) (m : Nat) (hm : wrap64 ((p1.size : Int) - 1) = (m : Int)) (hml : m < p1.size) (hpl : ((p1[m]'hml).toNat : Int) = 47) (p2 : ByteArray) (hp2 : p1.extract 0 m = p2) (er : Int)
  (hck : ∀ w, Calls Tryd.prog 40 #[.agg (rR 4 p2 true true)] w fun e w' => e = .returned (.int .i64 er) ∧ Below w.heap.size w w') :
  Calls Tryd.prog 12 #[.string a0] w fun e w' => e = .returned (if er = 0 then .tuple #[.agg (rR 4 p2 true true), .int .i64 0] else .tuple #[.agg zR, .int .i64 er]) ∧ Below w.heap.size w w' := by
 have hu1 := Tryd.underlying24
 have HD := Aside0.mk (B1.start 24 w zR)
 have l1 : ((a0.size : Int) < 2) = False := eq_false (by omega)
 have l2 : (a0.size < 2) = False := eq_false (by omega)
 have l3 : ((0 : Int) < (a0.size : Int)) = True := eq_true (by omega)
 have l4 : (0 < a0.size) = True := eq_true hb0
 have l5 : ((1 : Int) < (a0.size : Int)) = True := eq_true (by omega)
 have l6 : (1 < a0.size) = True := eq_true hb1
 have l7 : ((2 : Int) ≤ (a0.size : Int)) = True := eq_true (by omega)
 have l8 : (2 ≤ a0.size) = True := eq_true hb1
 have f1 : (t.toList == []) = false := tl_ne t hte
 have f2 : (0 < t.size) = True := eq_true hte
 have f3 : ((0 : Int) < (t.size : Int)) = True := eq_true (by omega)
 have f5 : ((1 : Int) ≤ (t.size : Int)) = True := eq_true (by omega)
 have f6 : (1 ≤ t.size) = True := eq_true hte
 have g2 : (m < p1.size) = True := eq_true hml
 have g3 : ((m : Int) < (p1.size : Int)) = True := eq_true (by omega)
 have g5 : (m ≤ p1.size) = True := eq_true (Nat.le_of_lt hml)
 have g6 : ((m : Int) ≤ (p1.size : Int)) = True := eq_true (by omega)
 have g0 : (0 < p1.size) = True := eq_true hpe
 have g1 : ((0 : Int) < (p1.size : Int)) = True := eq_true (by omega)
 by_cases hz : er = 0
 ·subst hz
  rw [if_pos rfl]
  go_enter Tryd.func12, Tryd.ntmps12
  go_wp2_with (first | ((with_reducible refine gate_store (t := 24) (p := 4) rfl ?_); refine store_event rfl rfl rfl (store_runR _ _ 24 zR (rR 0 t false false) (RB.of0 w).box (.tmp 4) (.tmp 18) rfl rfl rfl (by kernel_rfl) rfl (rR_one _ _ _ _)) ?_; intro w8 hw8; have HP := Aside0.mk (show RB w w8 (w.heap.size + 1) (rR 0 t false false) from by rw [hw8]; exact RB.row_ (RB.of0 w) (rR 0 t false false)); clear hw8 HD; have hk1 := blk_cell HP.out.box 1; change _ = some (Value.string t) at hk1) | ((with_reducible refine gate_store (t := 3) (p := 33) rfl ?_); refine store_event rfl rfl rfl (store_cellR _ HP.out.box 0 3 (.int .i64 4) (.tmp 33) (.const (.int .i64 4)) rfl rfl rfl (by kernel_rfl) (show 0 < 4 by decide) rfl) ?_; intro w8 hw8; have n0_ := Aside0.mk (show RB w w8 (w.heap.size + 1) (rR 4 t false false) from by rw [hw8]; exact RB.put HP.out 0 _ _ rfl); clear hw8 HP hk1; have HP := n0_; clear n0_; have hk1 := blk_cell HP.out.box 1; change _ = some (Value.string t) at hk1) | ((with_reducible refine gate_store (t := 4) (p := 43) rfl ?_); refine store_event rfl rfl rfl (store_cellR _ HP.out.box 3 4 (.bool true) (.tmp 43) (.const (.bool true)) rfl rfl rfl (by kernel_rfl) (show 3 < 4 by decide) rfl) ?_; intro w8 hw8; have n0_ := Aside0.mk (show RB w w8 (w.heap.size + 1) (rR 4 t false true) from by rw [hw8]; exact RB.put HP.out 3 _ _ rfl); clear hw8 HP hk1; have HP := n0_; clear n0_; have hk1 := blk_cell HP.out.box 1; change _ = some (Value.string t) at hk1) | ((with_reducible refine gate_store (t := 9) (p := 47) rfl ?_); refine store_event rfl rfl rfl (store_cellR _ HP.out.box 1 9 (.string p1) (.tmp 47) (.tmp 46) rfl rfl rfl (by kernel_rfl) (show 1 < 4 by decide) rfl) ?_; intro w8 hw8; have n0_ := Aside0.mk (show RB w w8 (w.heap.size + 1) (rR 4 p1 false true) from by rw [hw8]; exact RB.put HP.out 1 _ _ rfl); clear hw8 HP hk1; have HP := n0_; clear n0_; have hk1 := blk_cell HP.out.box 1; change _ = some (Value.string p1) at hk1) | ((with_reducible refine gate_store (t := 4) (p := 61) rfl ?_); refine store_event rfl rfl rfl (store_cellR _ HP.out.box 2 4 (.bool true) (.tmp 61) (.const (.bool true)) rfl rfl rfl (by kernel_rfl) (show 2 < 4 by decide) rfl) ?_; intro w8 hw8; have n0_ := Aside0.mk (show RB w w8 (w.heap.size + 1) (rR 4 p1 true true) from by rw [hw8]; exact RB.put HP.out 2 _ _ rfl); clear hw8 HP hk1; have HP := n0_; clear n0_; have hk1 := blk_cell HP.out.box 1; change _ = some (Value.string p1) at hk1) | ((with_reducible refine gate_store (t := 9) (p := 67) rfl ?_); refine store_event rfl rfl rfl (store_cellR _ HP.out.box 1 9 (.string p2) (.tmp 67) (.tmp 66) rfl rfl rfl (by kernel_rfl) (show 1 < 4 by decide) rfl) ?_; intro w8 hw8; have n0_ := Aside0.mk (show RB w w8 (w.heap.size + 1) (rR 4 p2 true true) from by rw [hw8]; exact RB.put HP.out 1 _ _ rfl); clear hw8 HP hk1; have HP := n0_; clear n0_; have hk1 := blk_cell HP.out.box 1; change _ = some (Value.string p2) at hk1) | ((with_reducible refine gate_dst (N := 68) rfl ?_); refine wpList_load_row rfl 24 (.tmp 4) rfl _ rfl 24 (rR 4 p2 true true) (0, 0) _ HP.out.box hu1 rfl (by kernel_rfl) ?_) | (go_at_call 40; (with_reducible refine (hck _).mono ?_); rintro e w4 ⟨rfl, hb⟩; clear hk1; have n0_ := Aside0.mk (RB.step HP.out hb); clear HP hb; have HP := n0_; clear n0_) | ((with_reducible refine gate_dst (N := 74) rfl ?_); refine wpList_load_row rfl 24 (.tmp 4) rfl _ rfl 24 (rR 4 p2 true true) (0, 0) _ HP.out.box hu1 rfl (by kernel_rfl) ?_) | ((with_reducible refine gate_store (t := 24) (p := 2) rfl ?_); refine wpList_store_rowTo rfl 24 (.tmp 2) (.tmp 74) rfl rfl w.heap.size (rR 4 p2 true true) rfl rfl 24 zR HP.out.res (by kernel_rfl) rfl (rR_one _ _ _ _) ?_))
  refine bodyPost_ret (results_ct rfl _ _ w.heap.size 24 (rR 4 p2 true true) (0, 0) _ rfl (setRow_heap _ _ zR _ 24 (0, 0) HP.out.res) hu1 rfl (by kernel_rfl)) rfl ?_
  exact ⟨rfl, below_setRow HP.out.below (Nat.le_refl _) _⟩
 ·rw [if_neg hz]
  have q1 : (er != 0) = true := bne_iff_ne.2 hz
  go_enter Tryd.func12, Tryd.ntmps12
  go_wp2_with (first | ((with_reducible refine gate_store (t := 24) (p := 4) rfl ?_); refine store_event rfl rfl rfl (store_runR _ _ 24 zR (rR 0 t false false) (RB.of0 w).box (.tmp 4) (.tmp 18) rfl rfl rfl (by kernel_rfl) rfl (rR_one _ _ _ _)) ?_; intro w8 hw8; have HP := Aside0.mk (show RB w w8 (w.heap.size + 1) (rR 0 t false false) from by rw [hw8]; exact RB.row_ (RB.of0 w) (rR 0 t false false)); clear hw8 HD; have hk1 := blk_cell HP.out.box 1; change _ = some (Value.string t) at hk1) | ((with_reducible refine gate_store (t := 3) (p := 33) rfl ?_); refine store_event rfl rfl rfl (store_cellR _ HP.out.box 0 3 (.int .i64 4) (.tmp 33) (.const (.int .i64 4)) rfl rfl rfl (by kernel_rfl) (show 0 < 4 by decide) rfl) ?_; intro w8 hw8; have n0_ := Aside0.mk (show RB w w8 (w.heap.size + 1) (rR 4 t false false) from by rw [hw8]; exact RB.put HP.out 0 _ _ rfl); clear hw8 HP hk1; have HP := n0_; clear n0_; have hk1 := blk_cell HP.out.box 1; change _ = some (Value.string t) at hk1) | ((with_reducible refine gate_store (t := 4) (p := 43) rfl ?_); refine store_event rfl rfl rfl (store_cellR _ HP.out.box 3 4 (.bool true) (.tmp 43) (.const (.bool true)) rfl rfl rfl (by kernel_rfl) (show 3 < 4 by decide) rfl) ?_; intro w8 hw8; have n0_ := Aside0.mk (show RB w w8 (w.heap.size + 1) (rR 4 t false true) from by rw [hw8]; exact RB.put HP.out 3 _ _ rfl); clear hw8 HP hk1; have HP := n0_; clear n0_; have hk1 := blk_cell HP.out.box 1; change _ = some (Value.string t) at hk1) | ((with_reducible refine gate_store (t := 9) (p := 47) rfl ?_); refine store_event rfl rfl rfl (store_cellR _ HP.out.box 1 9 (.string p1) (.tmp 47) (.tmp 46) rfl rfl rfl (by kernel_rfl) (show 1 < 4 by decide) rfl) ?_; intro w8 hw8; have n0_ := Aside0.mk (show RB w w8 (w.heap.size + 1) (rR 4 p1 false true) from by rw [hw8]; exact RB.put HP.out 1 _ _ rfl); clear hw8 HP hk1; have HP := n0_; clear n0_; have hk1 := blk_cell HP.out.box 1; change _ = some (Value.string p1) at hk1) | ((with_reducible refine gate_store (t := 4) (p := 61) rfl ?_); refine store_event rfl rfl rfl (store_cellR _ HP.out.box 2 4 (.bool true) (.tmp 61) (.const (.bool true)) rfl rfl rfl (by kernel_rfl) (show 2 < 4 by decide) rfl) ?_; intro w8 hw8; have n0_ := Aside0.mk (show RB w w8 (w.heap.size + 1) (rR 4 p1 true true) from by rw [hw8]; exact RB.put HP.out 2 _ _ rfl); clear hw8 HP hk1; have HP := n0_; clear n0_; have hk1 := blk_cell HP.out.box 1; change _ = some (Value.string p1) at hk1) | ((with_reducible refine gate_store (t := 9) (p := 67) rfl ?_); refine store_event rfl rfl rfl (store_cellR _ HP.out.box 1 9 (.string p2) (.tmp 67) (.tmp 66) rfl rfl rfl (by kernel_rfl) (show 1 < 4 by decide) rfl) ?_; intro w8 hw8; have n0_ := Aside0.mk (show RB w w8 (w.heap.size + 1) (rR 4 p2 true true) from by rw [hw8]; exact RB.put HP.out 1 _ _ rfl); clear hw8 HP hk1; have HP := n0_; clear n0_; have hk1 := blk_cell HP.out.box 1; change _ = some (Value.string p2) at hk1) | ((with_reducible refine gate_dst (N := 68) rfl ?_); refine wpList_load_row rfl 24 (.tmp 4) rfl _ rfl 24 (rR 4 p2 true true) (0, 0) _ HP.out.box hu1 rfl (by kernel_rfl) ?_) | (go_at_call 40; (with_reducible refine (hck _).mono ?_); rintro e w4 ⟨rfl, hb⟩; clear hk1; have n0_ := Aside0.mk (RB.step HP.out hb); clear HP hb; have HP := n0_; clear n0_) | ((with_reducible refine gate_store (t := 24) (p := 2) rfl ?_); refine wpList_store_rowTo rfl 24 (.tmp 2) (.tmp 72) rfl rfl w.heap.size zR rfl rfl 24 zR HP.out.res (by kernel_rfl) rfl (rR_one _ _ _ _) ?_))
  refine bodyPost_ret (results_ct rfl _ _ w.heap.size 24 zR (0, 0) _ rfl (setRow_heap _ _ zR _ 24 (0, 0) HP.out.res) hu1 rfl (by kernel_rfl)) rfl ?_
  exact ⟨rfl, below_setRow HP.out.below (Nat.le_refl _) _⟩
theorem rparse_1 (a0 : ByteArray) (w : World) (hs : a0.size < 1000000) (hb0 : 0 < a0.size) (hb1 : 1 < a0.size) (hc0 : ((a0[0]'hb0).toNat : Int) = 43) (hc1 : ((a0[1]'hb1).toNat : Int) = 32) (t : ByteArray) (ht : a0.extract 2 a0.size = t) (er : Int)
  (hck : ∀ w, Calls Tryd.prog 40 #[.agg (rR 1 (cutS (cutP t).1).1 (cutS (cutP t).1).2 (cutP t).2)] w fun e w' => e = .returned (.int .i64 er) ∧ Below w.heap.size w w') :
  Calls Tryd.prog 12 #[.string a0] w fun e w' => e = .returned (if er = 0 then .tuple #[.agg (rR 1 (cutS (cutP t).1).1 (cutS (cutP t).1).2 (cutP t).2), .int .i64 0] else .tuple #[.agg zR, .int .i64 er]) ∧ Below w.heap.size w w' := by
 have hts : t.size < 1000000 := by rw [← ht]; exact ex_small a0 _ _ hs
 by_cases he : t.size = 0
 ·rw [cutP_empty he] at hck ⊢
  simp only [cutS_empty he] at hck ⊢
  exact rparse_1_empty_empty a0 w hs hb0 hb1 hc0 hc1 t ht he er hck
 ·have hp : 0 < t.size := by omega
  by_cases h0 : bt t 0 = 47
  ·have h0' : ((t[0]'hp).toNat : Int) = 47 := (bt_at t 0 hp).trans h0
   rw [cutP_yes hp h0] at hck ⊢
   obtain ⟨p, hpx⟩ : ∃ p, t.extract 1 t.size = p := ⟨_, rfl⟩
   rw [hpx] at hck ⊢
   have hps : p.size < 1000000 := by rw [← hpx]; exact ex_small t _ _ hts
   by_cases he2 : p.size = 0
   ·rw [cutS_empty he2] at hck ⊢
    exact rparse_1_yes_empty a0 w hs hb0 hb1 hc0 hc1 t ht hp h0' p hpx he2 er hck
   ·have hp2 : 0 < p.size := by omega
    by_cases hl : bt p ((p.size - 1 : Nat) : Int) = 47
    ·rw [cutS_yes hp2 hl] at hck ⊢
     exact rparse_1_yes_yes a0 w hs hb0 hb1 hc0 hc1 t ht hp h0' p hpx hp2 (p.size - 1) (wr_pred p hps hp2) (by omega) ((bt_last p (by omega)).trans hl) _ rfl er hck
    ·rw [cutS_no hl] at hck ⊢
     exact rparse_1_yes_no a0 w hs hb0 hb1 hc0 hc1 t ht hp h0' p hpx hp2 (p.size - 1) (wr_pred p hps hp2) (by omega) (fun h => hl ((bt_last p (by omega)).symm.trans h)) er hck
  ·have h0' : ¬ ((t[0]'hp).toNat : Int) = 47 := fun h => h0 ((bt_at t 0 hp).symm.trans h)
   rw [cutP_no h0] at hck ⊢
   by_cases hl : bt t ((t.size - 1 : Nat) : Int) = 47
   ·simp only [cutS_yes hp hl] at hck ⊢
    exact rparse_1_no_yes a0 w hs hb0 hb1 hc0 hc1 t ht hp h0' (t.size - 1) (wr_pred t hts hp) (by omega) ((bt_last t (by omega)).trans hl) _ rfl er hck
   ·simp only [cutS_no hl] at hck ⊢
    exact rparse_1_no_no a0 w hs hb0 hb1 hc0 hc1 t ht hp h0' (t.size - 1) (wr_pred t hts hp) (by omega) (fun h => hl ((bt_last t (by omega)).symm.trans h)) er hck
theorem rparse_2 (a0 : ByteArray) (w : World) (hs : a0.size < 1000000) (hb0 : 0 < a0.size) (hb1 : 1 < a0.size) (hc0 : ((a0[0]'hb0).toNat : Int) = 45) (hc1 : ((a0[1]'hb1).toNat : Int) = 32) (t : ByteArray) (ht : a0.extract 2 a0.size = t) (er : Int)
  (hck : ∀ w, Calls Tryd.prog 40 #[.agg (rR 2 (cutS (cutP t).1).1 (cutS (cutP t).1).2 (cutP t).2)] w fun e w' => e = .returned (.int .i64 er) ∧ Below w.heap.size w w') :
  Calls Tryd.prog 12 #[.string a0] w fun e w' => e = .returned (if er = 0 then .tuple #[.agg (rR 2 (cutS (cutP t).1).1 (cutS (cutP t).1).2 (cutP t).2), .int .i64 0] else .tuple #[.agg zR, .int .i64 er]) ∧ Below w.heap.size w w' := by
 have hts : t.size < 1000000 := by rw [← ht]; exact ex_small a0 _ _ hs
 by_cases he : t.size = 0
 ·rw [cutP_empty he] at hck ⊢
  simp only [cutS_empty he] at hck ⊢
  exact rparse_2_empty_empty a0 w hs hb0 hb1 hc0 hc1 t ht he er hck
 ·have hp : 0 < t.size := by omega
  by_cases h0 : bt t 0 = 47
  ·have h0' : ((t[0]'hp).toNat : Int) = 47 := (bt_at t 0 hp).trans h0
   rw [cutP_yes hp h0] at hck ⊢
   obtain ⟨p, hpx⟩ : ∃ p, t.extract 1 t.size = p := ⟨_, rfl⟩
   rw [hpx] at hck ⊢
   have hps : p.size < 1000000 := by rw [← hpx]; exact ex_small t _ _ hts
   by_cases he2 : p.size = 0
   ·rw [cutS_empty he2] at hck ⊢
    exact rparse_2_yes_empty a0 w hs hb0 hb1 hc0 hc1 t ht hp h0' p hpx he2 er hck
   ·have hp2 : 0 < p.size := by omega
    by_cases hl : bt p ((p.size - 1 : Nat) : Int) = 47
    ·rw [cutS_yes hp2 hl] at hck ⊢
     exact rparse_2_yes_yes a0 w hs hb0 hb1 hc0 hc1 t ht hp h0' p hpx hp2 (p.size - 1) (wr_pred p hps hp2) (by omega) ((bt_last p (by omega)).trans hl) _ rfl er hck
    ·rw [cutS_no hl] at hck ⊢
     exact rparse_2_yes_no a0 w hs hb0 hb1 hc0 hc1 t ht hp h0' p hpx hp2 (p.size - 1) (wr_pred p hps hp2) (by omega) (fun h => hl ((bt_last p (by omega)).symm.trans h)) er hck
  ·have h0' : ¬ ((t[0]'hp).toNat : Int) = 47 := fun h => h0 ((bt_at t 0 hp).symm.trans h)
   rw [cutP_no h0] at hck ⊢
   by_cases hl : bt t ((t.size - 1 : Nat) : Int) = 47
   ·simp only [cutS_yes hp hl] at hck ⊢
    exact rparse_2_no_yes a0 w hs hb0 hb1 hc0 hc1 t ht hp h0' (t.size - 1) (wr_pred t hts hp) (by omega) ((bt_last t (by omega)).trans hl) _ rfl er hck
   ·simp only [cutS_no hl] at hck ⊢
    exact rparse_2_no_no a0 w hs hb0 hb1 hc0 hc1 t ht hp h0' (t.size - 1) (wr_pred t hts hp) (by omega) (fun h => hl ((bt_last t (by omega)).symm.trans h)) er hck
theorem rparse_3 (a0 : ByteArray) (w : World) (hs : a0.size < 1000000) (hb0 : 0 < a0.size) (hb1 : 1 < a0.size) (hc0 : ((a0[0]'hb0).toNat : Int) = 80) (hc1 : ((a0[1]'hb1).toNat : Int) = 32) (t : ByteArray) (ht : a0.extract 2 a0.size = t) (er : Int)
  (hck : ∀ w, Calls Tryd.prog 40 #[.agg (rR 3 (cutS (cutP t).1).1 (cutS (cutP t).1).2 (cutP t).2)] w fun e w' => e = .returned (.int .i64 er) ∧ Below w.heap.size w w') :
  Calls Tryd.prog 12 #[.string a0] w fun e w' => e = .returned (if er = 0 then .tuple #[.agg (rR 3 (cutS (cutP t).1).1 (cutS (cutP t).1).2 (cutP t).2), .int .i64 0] else .tuple #[.agg zR, .int .i64 er]) ∧ Below w.heap.size w w' := by
 have hts : t.size < 1000000 := by rw [← ht]; exact ex_small a0 _ _ hs
 by_cases he : t.size = 0
 ·rw [cutP_empty he] at hck ⊢
  simp only [cutS_empty he] at hck ⊢
  exact rparse_3_empty_empty a0 w hs hb0 hb1 hc0 hc1 t ht he er hck
 ·have hp : 0 < t.size := by omega
  by_cases h0 : bt t 0 = 47
  ·have h0' : ((t[0]'hp).toNat : Int) = 47 := (bt_at t 0 hp).trans h0
   rw [cutP_yes hp h0] at hck ⊢
   obtain ⟨p, hpx⟩ : ∃ p, t.extract 1 t.size = p := ⟨_, rfl⟩
   rw [hpx] at hck ⊢
   have hps : p.size < 1000000 := by rw [← hpx]; exact ex_small t _ _ hts
   by_cases he2 : p.size = 0
   ·rw [cutS_empty he2] at hck ⊢
    exact rparse_3_yes_empty a0 w hs hb0 hb1 hc0 hc1 t ht hp h0' p hpx he2 er hck
   ·have hp2 : 0 < p.size := by omega
    by_cases hl : bt p ((p.size - 1 : Nat) : Int) = 47
    ·rw [cutS_yes hp2 hl] at hck ⊢
     exact rparse_3_yes_yes a0 w hs hb0 hb1 hc0 hc1 t ht hp h0' p hpx hp2 (p.size - 1) (wr_pred p hps hp2) (by omega) ((bt_last p (by omega)).trans hl) _ rfl er hck
    ·rw [cutS_no hl] at hck ⊢
     exact rparse_3_yes_no a0 w hs hb0 hb1 hc0 hc1 t ht hp h0' p hpx hp2 (p.size - 1) (wr_pred p hps hp2) (by omega) (fun h => hl ((bt_last p (by omega)).symm.trans h)) er hck
  ·have h0' : ¬ ((t[0]'hp).toNat : Int) = 47 := fun h => h0 ((bt_at t 0 hp).symm.trans h)
   rw [cutP_no h0] at hck ⊢
   by_cases hl : bt t ((t.size - 1 : Nat) : Int) = 47
   ·simp only [cutS_yes hp hl] at hck ⊢
    exact rparse_3_no_yes a0 w hs hb0 hb1 hc0 hc1 t ht hp h0' (t.size - 1) (wr_pred t hts hp) (by omega) ((bt_last t (by omega)).trans hl) _ rfl er hck
   ·simp only [cutS_no hl] at hck ⊢
    exact rparse_3_no_no a0 w hs hb0 hb1 hc0 hc1 t ht hp h0' (t.size - 1) (wr_pred t hts hp) (by omega) (fun h => hl ((bt_last t (by omega)).symm.trans h)) er hck
theorem rparse_4 (a0 : ByteArray) (w : World) (hs : a0.size < 1000000) (hb0 : 0 < a0.size) (hb1 : 1 < a0.size) (hc0 : ((a0[0]'hb0).toNat : Int) = 82) (hc1 : ((a0[1]'hb1).toNat : Int) = 32) (t : ByteArray) (ht : a0.extract 2 a0.size = t) (er : Int)
  (hck : ∀ w, Calls Tryd.prog 40 #[.agg (rR 4 (cutS (cutP t).1).1 (cutS (cutP t).1).2 (cutP t).2)] w fun e w' => e = .returned (.int .i64 er) ∧ Below w.heap.size w w') :
  Calls Tryd.prog 12 #[.string a0] w fun e w' => e = .returned (if er = 0 then .tuple #[.agg (rR 4 (cutS (cutP t).1).1 (cutS (cutP t).1).2 (cutP t).2), .int .i64 0] else .tuple #[.agg zR, .int .i64 er]) ∧ Below w.heap.size w w' := by
 have hts : t.size < 1000000 := by rw [← ht]; exact ex_small a0 _ _ hs
 by_cases he : t.size = 0
 ·rw [cutP_empty he] at hck ⊢
  simp only [cutS_empty he] at hck ⊢
  exact rparse_4_empty_empty a0 w hs hb0 hb1 hc0 hc1 t ht he er hck
 ·have hp : 0 < t.size := by omega
  by_cases h0 : bt t 0 = 47
  ·have h0' : ((t[0]'hp).toNat : Int) = 47 := (bt_at t 0 hp).trans h0
   rw [cutP_yes hp h0] at hck ⊢
   obtain ⟨p, hpx⟩ : ∃ p, t.extract 1 t.size = p := ⟨_, rfl⟩
   rw [hpx] at hck ⊢
   have hps : p.size < 1000000 := by rw [← hpx]; exact ex_small t _ _ hts
   by_cases he2 : p.size = 0
   ·rw [cutS_empty he2] at hck ⊢
    exact rparse_4_yes_empty a0 w hs hb0 hb1 hc0 hc1 t ht hp h0' p hpx he2 er hck
   ·have hp2 : 0 < p.size := by omega
    by_cases hl : bt p ((p.size - 1 : Nat) : Int) = 47
    ·rw [cutS_yes hp2 hl] at hck ⊢
     exact rparse_4_yes_yes a0 w hs hb0 hb1 hc0 hc1 t ht hp h0' p hpx hp2 (p.size - 1) (wr_pred p hps hp2) (by omega) ((bt_last p (by omega)).trans hl) _ rfl er hck
    ·rw [cutS_no hl] at hck ⊢
     exact rparse_4_yes_no a0 w hs hb0 hb1 hc0 hc1 t ht hp h0' p hpx hp2 (p.size - 1) (wr_pred p hps hp2) (by omega) (fun h => hl ((bt_last p (by omega)).symm.trans h)) er hck
  ·have h0' : ¬ ((t[0]'hp).toNat : Int) = 47 := fun h => h0 ((bt_at t 0 hp).symm.trans h)
   rw [cutP_no h0] at hck ⊢
   by_cases hl : bt t ((t.size - 1 : Nat) : Int) = 47
   ·simp only [cutS_yes hp hl] at hck ⊢
    exact rparse_4_no_yes a0 w hs hb0 hb1 hc0 hc1 t ht hp h0' (t.size - 1) (wr_pred t hts hp) (by omega) ((bt_last t (by omega)).trans hl) _ rfl er hck
   ·simp only [cutS_no hl] at hck ⊢
    exact rparse_4_no_no a0 w hs hb0 hb1 hc0 hc1 t ht hp h0' (t.size - 1) (wr_pred t hts hp) (by omega) (fun h => hl ((bt_last t (by omega)).symm.trans h)) er hck
set_option maxHeartbeats 8000000 in
set_option maxRecDepth 100000 in
theorem rparse_bad0 (a0 : ByteArray) (w : World) (hs : a0.size < 2) : Calls Tryd.prog 12 #[.string a0] w fun e w' => e = .returned (.tuple #[.agg zR, .int .i64 5]) ∧ Below w.heap.size w w' := by
 have hu1 := Tryd.underlying24
 have HD := Aside0.mk (B1.start 24 w zR)
 have l1 : ((a0.size : Int) < 2) = True := eq_true (by omega)
 have l2 : (a0.size < 2) = True := eq_true hs
 go_enter Tryd.func12, Tryd.ntmps12
 go_wp2_with (first | ((with_reducible refine gate_store (t := 24) (p := 2) rfl ?_); refine wpList_store_rowTo rfl 24 (.tmp 2) (.tmp 15) rfl rfl w.heap.size zR rfl rfl 24 zR HD.out.2 (by kernel_rfl) rfl (rR_one _ _ _ _) ?_))
 refine bodyPost_ret (results_ct rfl _ _ w.heap.size 24 zR (0, 0) _ rfl (setRow_heap _ _ zR _ 24 (0, 0) HD.out.2) hu1 rfl (by kernel_rfl)) rfl ?_
 exact ⟨rfl, below_setRow HD.out.1 (Nat.le_refl _) _⟩
set_option maxHeartbeats 8000000 in
set_option maxRecDepth 100000 in
theorem rparse_bad1 (a0 : ByteArray) (w : World) (c1 : Int) (hb1 : 1 < a0.size) (hc1 : ((a0[1]'hb1).toNat : Int) = c1) (h32 : c1 ≠ 32) : Calls Tryd.prog 12 #[.string a0] w fun e w' => e = .returned (.tuple #[.agg zR, .int .i64 5]) ∧ Below w.heap.size w w' := by
 have hu1 := Tryd.underlying24
 have HD := Aside0.mk (B1.start 24 w zR)
 have l1 : ((a0.size : Int) < 2) = False := eq_false (by omega)
 have l2 : (a0.size < 2) = False := eq_false (by omega)
 have l5 : ((1 : Int) < (a0.size : Int)) = True := eq_true (by omega)
 have l6 : (1 < a0.size) = True := eq_true hb1
 have q1 : (c1 == 32) = false := beq_eq_false_iff_ne.2 h32
 go_enter Tryd.func12, Tryd.ntmps12
 go_wp2_with (first | ((with_reducible refine gate_store (t := 24) (p := 2) rfl ?_); refine wpList_store_rowTo rfl 24 (.tmp 2) (.tmp 15) rfl rfl w.heap.size zR rfl rfl 24 zR HD.out.2 (by kernel_rfl) rfl (rR_one _ _ _ _) ?_))
 refine bodyPost_ret (results_ct rfl _ _ w.heap.size 24 zR (0, 0) _ rfl (setRow_heap _ _ zR _ 24 (0, 0) HD.out.2) hu1 rfl (by kernel_rfl)) rfl ?_
 exact ⟨rfl, below_setRow HD.out.1 (Nat.le_refl _) _⟩
set_option maxHeartbeats 8000000 in
set_option maxRecDepth 100000 in
theorem rparse_bad2 (a0 : ByteArray) (w : World) (hs : a0.size < 1000000) (c0 : Int) (hb0 : 0 < a0.size) (hb1 : 1 < a0.size) (hc0 : ((a0[0]'hb0).toNat : Int) = c0) (hc1 : ((a0[1]'hb1).toNat : Int) = 32) (t : ByteArray) (ht : a0.extract 2 a0.size = t) (n1 : c0 ≠ 43) (n2 : c0 ≠ 45) (n3 : c0 ≠ 80) (n4 : c0 ≠ 82) : Calls Tryd.prog 12 #[.string a0] w fun e w' => e = .returned (.tuple #[.agg zR, .int .i64 5]) ∧ Below w.heap.size w w' := by
 have hu1 := Tryd.underlying24
 have HD := Aside0.mk (B1.start 24 w zR)
 have l1 : ((a0.size : Int) < 2) = False := eq_false (by omega)
 have l2 : (a0.size < 2) = False := eq_false (by omega)
 have l3 : ((0 : Int) < (a0.size : Int)) = True := eq_true (by omega)
 have l4 : (0 < a0.size) = True := eq_true hb0
 have l5 : ((1 : Int) < (a0.size : Int)) = True := eq_true (by omega)
 have l6 : (1 < a0.size) = True := eq_true hb1
 have l7 : ((2 : Int) ≤ (a0.size : Int)) = True := eq_true (by omega)
 have l8 : (2 ≤ a0.size) = True := eq_true hb1
 have m1 : (c0 == 43) = false := beq_eq_false_iff_ne.2 n1
 have m2 : (c0 == 45) = false := beq_eq_false_iff_ne.2 n2
 have m3 : (c0 == 80) = false := beq_eq_false_iff_ne.2 n3
 have m4 : (c0 == 82) = false := beq_eq_false_iff_ne.2 n4
 go_enter Tryd.func12, Tryd.ntmps12
 go_wp2_with (first | ((with_reducible refine gate_store (t := 24) (p := 4) rfl ?_); refine store_event rfl rfl rfl (store_runR _ _ 24 zR (rR 0 t false false) (RB.of0 w).box (.tmp 4) (.tmp 18) rfl rfl rfl (by kernel_rfl) rfl (rR_one _ _ _ _)) ?_; intro w8 hw8; have HP := Aside0.mk (show RB w w8 (w.heap.size + 1) (rR 0 t false false) from by rw [hw8]; exact RB.row_ (RB.of0 w) (rR 0 t false false)); clear hw8 HD; have hk1 := blk_cell HP.out.box 1; change _ = some (Value.string t) at hk1) | ((with_reducible refine gate_store (t := 24) (p := 2) rfl ?_); refine wpList_store_rowTo rfl 24 (.tmp 2) (.tmp 21) rfl rfl w.heap.size zR rfl rfl 24 zR HP.out.res (by kernel_rfl) rfl (rR_one _ _ _ _) ?_))
 refine bodyPost_ret (results_ct rfl _ _ w.heap.size 24 zR (0, 0) _ rfl (setRow_heap _ _ zR _ 24 (0, 0) HP.out.res) hu1 rfl (by kernel_rfl)) rfl ?_
 exact ⟨rfl, below_setRow HP.out.below (Nat.le_refl _) _⟩
theorem remoraref15_Parse.calls (a0 : ByteArray) (r1 : Int) (r2 : ByteArray) (r3 : Bool) (r4 : Bool) (r5 : Int) (w : World) (h : remoraref15_Parse.f a0 = some (r1, r2, r3, r4, r5)) :
  Calls Tryd.prog 12 #[.string a0] w fun e w' => e = .returned (.tuple #[.agg #[.int .i64 r1, .string r2, .bool r3, .bool r4], .int .i64 r5]) ∧ Below w.heap.size w w' := by
 unfold remoraref15_Parse.f at h
 have nil : ∀ e : Int, some (nilR e) = some (r1, r2, r3, r4, r5) → (Value.tuple #[.agg zR, .int .i64 e]) = .tuple #[.agg #[.int .i64 r1, .string r2, .bool r3, .bool r4], .int .i64 r5] := fun e he => by
  have := Option.some.inj he
  simp only [nilR, Prod.mk.injEq] at this
  obtain ⟨rfl, rfl, rfl, rfl, rfl⟩ := this
  rfl
 by_cases hs : a0.size < 1000000
 ·rw [if_pos hs] at h
  by_cases h2 : a0.size < 2
  ·rw [if_pos h2] at h
   rw [← nil 5 h]
   exact rparse_bad0 a0 w h2
  ·rw [if_neg h2] at h
   have hb0 : 0 < a0.size := by omega
   have hb1 : 1 < a0.size := by omega
   have e0 : ((a0[0]'hb0).toNat : Int) = bt a0 0 := bt_at a0 0 hb0
   have e1 : ((a0[1]'hb1).toNat : Int) = bt a0 1 := bt_at a0 1 hb1
   by_cases h32 : bt a0 1 = 32
   ·rw [if_neg (fun x => x h32)] at h
    rw [h32] at e1
    by_cases hz : signA (bt a0 0) = 0
    ·rw [if_pos hz] at h
     rw [← nil 5 h]
     unfold signA at hz
     have q : ∀ (p : Prop) [Decidable p] (k x : Int), k ≠ 0 → (if p then k else x) = 0 → ¬ p ∧ x = 0 := fun p _ k x hk hx => by
      by_cases hp : p
      ·rw [if_pos hp] at hx
       exact absurd hx hk
      ·rw [if_neg hp] at hx
       exact ⟨hp, hx⟩
     obtain ⟨n1, hz⟩ := q _ _ _ (by decide) hz
     obtain ⟨n2, hz⟩ := q _ _ _ (by decide) hz
     obtain ⟨n3, hz⟩ := q _ _ _ (by decide) hz
     obtain ⟨n4, hz⟩ := q _ _ _ (by decide) hz
     exact rparse_bad2 a0 w hs _ hb0 hb1 e0 e1 _ rfl n1 n2 n3 n4
    ·rw [if_neg hz] at h
     obtain ⟨er, hE, h⟩ := Option.bind_eq_some_iff.1 h
     have hck := fun w => remoraref15_one.calls 1000010 _ _ _ _ er w hE
     have key : Calls Tryd.prog 12 #[.string a0] w fun e w' => e = .returned (if er = 0 then .tuple #[.agg (rR (signA (bt a0 0)) (cutS (cutP (a0.extract 2 a0.size)).1).1 (cutS (cutP (a0.extract 2 a0.size)).1).2 (cutP (a0.extract 2 a0.size)).2), .int .i64 0] else .tuple #[.agg zR, .int .i64 er]) ∧ Below w.heap.size w w' := by
      clear h hE
      by_cases h1 : bt a0 0 = 43
      ·rw [h1] at e0 hck ⊢
       exact rparse_1 a0 w hs hb0 hb1 e0 e1 _ rfl er hck
      ·by_cases h2 : bt a0 0 = 45
       ·rw [h2] at e0 hck ⊢
        exact rparse_2 a0 w hs hb0 hb1 e0 e1 _ rfl er hck
       ·by_cases h3 : bt a0 0 = 80
        ·rw [h3] at e0 hck ⊢
         exact rparse_3 a0 w hs hb0 hb1 e0 e1 _ rfl er hck
        ·by_cases h4 : bt a0 0 = 82
         ·rw [h4] at e0 hck ⊢
          exact rparse_4 a0 w hs hb0 hb1 e0 e1 _ rfl er hck
         ·exact absurd (by rw [signA, if_neg h1, if_neg h2, if_neg h3, if_neg h4]) hz
     by_cases hz : er = 0
     ·rw [if_pos hz] at h key
      have := Option.some.inj h
      simp only [Prod.mk.injEq] at this
      obtain ⟨rfl, rfl, rfl, rfl, rfl⟩ := this
      exact key
     ·rw [if_neg hz] at h key
      rw [← nil er h]
      exact key
   ·rw [if_pos h32] at h
    rw [← nil 5 h]
    exact rparse_bad1 a0 w _ hb1 e1 h32
 ·rw [if_neg hs] at h
  cases h
end Go.Proofs.YtioehkeocddniaaDoor.PA
