/- Plain: whether a rule may be, by the code and by the reference. -/
import Derived.Great.BuildSlice
import Derived.Laws.CopyOwn
import Derived.Laws.CopyRow
import Derived.Test.YtioehkeocddniaaDoorMRulesActsG4
import Derived.Test.YtioehkeocddniaaDoorMRulesActsG1
import Derived.Shelf.Strings.Split
import Derived.Test.YtioehkeocddniaaDoorMRulesActsG3
import Derived.ProofKit
import Derived.Test.YtioehkeocddniaaDoorRows
import Derived.WalkKit
import Derived.Shelf.Strings.OnBuilder
import Derived.Lib.Join
import Derived.Lib.Bytealg
import Derived.Test.YtioehkeocddniaaDoorMRulesActsG2
namespace Go.Proofs.YtioehkeocddniaaDoor.PA
open Go.RowKit Go.Proofs.YtioehkeocddniaaDoorW.PrintWords Go.Proofs.YtioehkeocddniaaDoorW.PrintLast Go.Proofs.YtioehkeocddniaaDoorW.PrintMore
attribute [local go_sem] max2_int min2_int max_two min_two max_three min_three max_four min_four
set_option linter.unusedVariables false
set_option linter.unusedSimpArgs false
def rules_Parse.f (a0 : ByteArray) : Option (Int × ByteArray × Bool × Bool × Int) :=
 if a0.size < 1000000 then
  if a0.size < 2 then some (nilR 5) else
  (rules_act.f 20 (bt a0 0)).bind fun a => if a = 0 ∨ bt a0 1 ≠ 32 then some (nilR 5) else
  (strings_CutPrefix.f (a0.extract 2 a0.size) ⟨#[47]⟩).bind fun b => (strings_CutSuffix.f b.1 ⟨#[47]⟩).bind fun d =>
  (rules_check.f a d.1 d.2 b.2).bind fun e => if e = 0 then some (a, d.1, d.2, b.2, 0) else some (nilR e)
 else none
set_option maxHeartbeats 8000000 in
set_option maxRecDepth 100000 in
theorem rules_parse_walk (a0 : ByteArray) (w : World) (hs : a0.size < 1000000) (c0 c1 : Int) (hb0 : 0 < a0.size) (hb1 : 1 < a0.size) (hc0 : ((a0[0]'hb0).toNat : Int) = c0) (hc1 : ((a0[1]'hb1).toNat : Int) = c1) (h32 : c1 = 32)
  (a : Int) (hact : ∀ w, Calls Tryd.prog 36 #[.int .u8 c0] w fun e w' => e = .returned (.int .i64 a) ∧ Below w.heap.size w w') (ha : a ≠ 0) (p1 : ByteArray) (an : Bool)
  (hpre : ∀ w, Calls Tryd.prog 37 #[.string (a0.extract 2 a0.size), .string (⟨#[47]⟩ : ByteArray)] w fun e w' => e = .returned (.tuple #[.string p1, .bool an]) ∧ w' = w) (p2 : ByteArray) (d : Bool)
  (hsuf : ∀ w, Calls Tryd.prog 38 #[.string p1, .string (⟨#[47]⟩ : ByteArray)] w fun e w' => e = .returned (.tuple #[.string p2, .bool d]) ∧ w' = w) (er : Int)
  (hck : ∀ w, Calls Tryd.prog 39 #[.agg (rR a p2 d an)] w fun e w' => e = .returned (.int .i64 er) ∧ Below w.heap.size w w') :
  Calls Tryd.prog 11 #[.string a0] w fun e w' => e = .returned (if er = 0 then .tuple #[.agg (rR a p2 d an), .int .i64 0] else .tuple #[.agg zR, .int .i64 er]) ∧ Below w.heap.size w w' := by
 have hu1 := Tryd.underlying24
 have HD := Aside0.mk (B1.start 24 w zR)
 have l1 : ((a0.size : Int) < 2) = False := eq_false (by omega)
 have l2 : (a0.size < 2) = False := eq_false (by omega)
 have l3 : ((0 : Int) < (a0.size : Int)) = True := eq_true (by omega)
 have l4 : (0 < a0.size) = True := eq_true hb0
 have l5 : ((1 : Int) < (a0.size : Int)) = True := eq_true (by omega)
 have l6 : (1 < a0.size) = True := eq_true hb1
 have l7 : ((2 : Int) ≤ (a0.size : Int)) = True := eq_true (by omega)
 have l8 : (2 ≤ a0.size) = True := eq_true hb1
 have q0 : (a == 0) = false := beq_eq_false_iff_ne.2 ha
 subst h32
 by_cases hz : er = 0
 ·subst hz
  rw [if_pos rfl]
  go_enter Tryd.func11, Tryd.ntmps11
  go_wp2_with (first | (go_at_call 36; (with_reducible refine (hact _).mono ?_); rintro e w2 ⟨rfl, hb⟩; have n0_ := Aside0.mk (B1.step HD.out hb); clear HD hb; have HD := n0_; clear n0_) | ((with_reducible refine gate_store (t := 24) (p := 4) rfl ?_); refine store_event rfl rfl rfl (store_runR _ _ 24 zR (rR a ⟨#[]⟩ false false) (RB.of HD.out).box (.tmp 4) (.tmp 24) rfl rfl rfl (by kernel_rfl) rfl (rR_one _ _ _ _)) ?_; intro w8 hw8; have HP := Aside0.mk (show RB w w8 _ (rR a ⟨#[]⟩ false false) from by rw [hw8]; exact RB.row_ (RB.of HD.out) (rR a ⟨#[]⟩ false false)); clear hw8 HD) | (go_at_call 37; (with_reducible refine (hpre _).mono ?_); rintro e w3 ⟨rfl, rfl⟩) | ((with_reducible refine gate_store (t := 9) (p := 31) rfl ?_); refine store_event rfl rfl rfl (store_cellR _ HP.out.box 1 9 (.string p1) (.tmp 31) (.tmp 29) rfl rfl rfl (by kernel_rfl) (show 1 < 4 by decide) rfl) ?_; intro w8 hw8; have n0_ := Aside0.mk (show RB w w8 w2.heap.size (rR a p1 false false) from by rw [hw8]; exact RB.put HP.out 1 _ _ rfl); clear hw8 HP; have HP := n0_; clear n0_) | ((with_reducible refine gate_store (t := 4) (p := 32) rfl ?_); refine store_event rfl rfl rfl (store_cellR _ HP.out.box 3 4 (.bool an) (.tmp 32) (.tmp 30) rfl rfl rfl (by kernel_rfl) (show 3 < 4 by decide) rfl) ?_; intro w8 hw8; have n0_ := Aside0.mk (show RB w w8 w2.heap.size (rR a p1 false an) from by rw [hw8]; exact RB.put HP.out 3 _ _ rfl); clear hw8 HP; have HP := n0_; clear n0_; have hk1 := blk_cell HP.out.box 1; change _ = some (Value.string p1) at hk1) | (go_at_call 38; (with_reducible refine (hsuf _).mono ?_); rintro e w3 ⟨rfl, rfl⟩; clear hk1) | ((with_reducible refine gate_store (t := 9) (p := 39) rfl ?_); refine store_event rfl rfl rfl (store_cellR _ HP.out.box 1 9 (.string p2) (.tmp 39) (.tmp 37) rfl rfl rfl (by kernel_rfl) (show 1 < 4 by decide) rfl) ?_; intro w8 hw8; have n0_ := Aside0.mk (show RB w w8 w2.heap.size (rR a p2 false an) from by rw [hw8]; exact RB.put HP.out 1 _ _ rfl); clear hw8 HP; have HP := n0_; clear n0_) | ((with_reducible refine gate_store (t := 4) (p := 40) rfl ?_); refine store_event rfl rfl rfl (store_cellR _ HP.out.box 2 4 (.bool d) (.tmp 40) (.tmp 38) rfl rfl rfl (by kernel_rfl) (show 2 < 4 by decide) rfl) ?_; intro w8 hw8; have n0_ := Aside0.mk (show RB w w8 w2.heap.size (rR a p2 d an) from by rw [hw8]; exact RB.put HP.out 2 _ _ rfl); clear hw8 HP; have HP := n0_; clear n0_) | ((with_reducible refine gate_dst (N := 41) rfl ?_); refine wpList_load_row rfl 24 (.tmp 4) rfl _ rfl 24 (rR a p2 d an) (0, 0) _ HP.out.box hu1 rfl (by kernel_rfl) ?_) | (go_at_call 39; (with_reducible refine (hck _).mono ?_); rintro e w4 ⟨rfl, hb⟩; have n0_ := Aside0.mk (RB.step HP.out hb); clear HP hb; have HP := n0_; clear n0_) | ((with_reducible refine gate_dst (N := 47) rfl ?_); refine wpList_load_row rfl 24 (.tmp 4) rfl _ rfl 24 (rR a p2 d an) (0, 0) _ HP.out.box hu1 rfl (by kernel_rfl) ?_) | ((with_reducible refine gate_store (t := 24) (p := 2) rfl ?_); refine wpList_store_rowTo rfl 24 (.tmp 2) (.tmp 47) rfl rfl w.heap.size (rR a p2 d an) rfl rfl 24 zR HP.out.res (by kernel_rfl) rfl (rR_one _ _ _ _) ?_))
  refine bodyPost_ret (results_ct rfl _ _ w.heap.size 24 (rR a p2 d an) (0, 0) _ rfl (setRow_heap _ _ zR _ 24 (0, 0) HP.out.res) hu1 rfl (by kernel_rfl)) rfl ?_
  exact ⟨rfl, below_setRow HP.out.below (Nat.le_refl _) _⟩
 ·rw [if_neg hz]
  have q1 : (er != 0) = true := bne_iff_ne.2 hz
  go_enter Tryd.func11, Tryd.ntmps11
  go_wp2_with (first | (go_at_call 36; (with_reducible refine (hact _).mono ?_); rintro e w2 ⟨rfl, hb⟩; have n0_ := Aside0.mk (B1.step HD.out hb); clear HD hb; have HD := n0_; clear n0_) | ((with_reducible refine gate_store (t := 24) (p := 4) rfl ?_); refine store_event rfl rfl rfl (store_runR _ _ 24 zR (rR a ⟨#[]⟩ false false) (RB.of HD.out).box (.tmp 4) (.tmp 24) rfl rfl rfl (by kernel_rfl) rfl (rR_one _ _ _ _)) ?_; intro w8 hw8; have HP := Aside0.mk (show RB w w8 _ (rR a ⟨#[]⟩ false false) from by rw [hw8]; exact RB.row_ (RB.of HD.out) (rR a ⟨#[]⟩ false false)); clear hw8 HD) | (go_at_call 37; (with_reducible refine (hpre _).mono ?_); rintro e w3 ⟨rfl, rfl⟩) | ((with_reducible refine gate_store (t := 9) (p := 31) rfl ?_); refine store_event rfl rfl rfl (store_cellR _ HP.out.box 1 9 (.string p1) (.tmp 31) (.tmp 29) rfl rfl rfl (by kernel_rfl) (show 1 < 4 by decide) rfl) ?_; intro w8 hw8; have n0_ := Aside0.mk (show RB w w8 w2.heap.size (rR a p1 false false) from by rw [hw8]; exact RB.put HP.out 1 _ _ rfl); clear hw8 HP; have HP := n0_; clear n0_) | ((with_reducible refine gate_store (t := 4) (p := 32) rfl ?_); refine store_event rfl rfl rfl (store_cellR _ HP.out.box 3 4 (.bool an) (.tmp 32) (.tmp 30) rfl rfl rfl (by kernel_rfl) (show 3 < 4 by decide) rfl) ?_; intro w8 hw8; have n0_ := Aside0.mk (show RB w w8 w2.heap.size (rR a p1 false an) from by rw [hw8]; exact RB.put HP.out 3 _ _ rfl); clear hw8 HP; have HP := n0_; clear n0_; have hk1 := blk_cell HP.out.box 1; change _ = some (Value.string p1) at hk1) | (go_at_call 38; (with_reducible refine (hsuf _).mono ?_); rintro e w3 ⟨rfl, rfl⟩; clear hk1) | ((with_reducible refine gate_store (t := 9) (p := 39) rfl ?_); refine store_event rfl rfl rfl (store_cellR _ HP.out.box 1 9 (.string p2) (.tmp 39) (.tmp 37) rfl rfl rfl (by kernel_rfl) (show 1 < 4 by decide) rfl) ?_; intro w8 hw8; have n0_ := Aside0.mk (show RB w w8 w2.heap.size (rR a p2 false an) from by rw [hw8]; exact RB.put HP.out 1 _ _ rfl); clear hw8 HP; have HP := n0_; clear n0_) | ((with_reducible refine gate_store (t := 4) (p := 40) rfl ?_); refine store_event rfl rfl rfl (store_cellR _ HP.out.box 2 4 (.bool d) (.tmp 40) (.tmp 38) rfl rfl rfl (by kernel_rfl) (show 2 < 4 by decide) rfl) ?_; intro w8 hw8; have n0_ := Aside0.mk (show RB w w8 w2.heap.size (rR a p2 d an) from by rw [hw8]; exact RB.put HP.out 2 _ _ rfl); clear hw8 HP; have HP := n0_; clear n0_) | ((with_reducible refine gate_dst (N := 41) rfl ?_); refine wpList_load_row rfl 24 (.tmp 4) rfl _ rfl 24 (rR a p2 d an) (0, 0) _ HP.out.box hu1 rfl (by kernel_rfl) ?_) | (go_at_call 39; (with_reducible refine (hck _).mono ?_); rintro e w4 ⟨rfl, hb⟩; have n0_ := Aside0.mk (RB.step HP.out hb); clear HP hb; have HP := n0_; clear n0_) | ((with_reducible refine gate_store (t := 24) (p := 2) rfl ?_); refine wpList_store_rowTo rfl 24 (.tmp 2) (.tmp 45) rfl rfl w.heap.size zR rfl rfl 24 zR HP.out.res (by kernel_rfl) rfl (rR_one _ _ _ _) ?_))
  refine bodyPost_ret (results_ct rfl _ _ w.heap.size 24 zR (0, 0) _ rfl (setRow_heap _ _ zR _ 24 (0, 0) HP.out.res) hu1 rfl (by kernel_rfl)) rfl ?_
  exact ⟨rfl, below_setRow HP.out.below (Nat.le_refl _) _⟩
set_option maxHeartbeats 8000000 in
set_option maxRecDepth 100000 in
theorem rules_parse_bad0 (a0 : ByteArray) (w : World) (hs : a0.size < 2) : Calls Tryd.prog 11 #[.string a0] w fun e w' => e = .returned (.tuple #[.agg zR, .int .i64 5]) ∧ Below w.heap.size w w' := by
 have hu1 := Tryd.underlying24
 have HD := Aside0.mk (B1.start 24 w zR)
 have l1 : ((a0.size : Int) < 2) = True := eq_true (by omega)
 have l2 : (a0.size < 2) = True := eq_true hs
 go_enter Tryd.func11, Tryd.ntmps11
 go_wp2_with (first | ((with_reducible refine gate_store (t := 24) (p := 2) rfl ?_); refine wpList_store_rowTo rfl 24 (.tmp 2) (.tmp 20) rfl rfl w.heap.size zR rfl rfl 24 zR HD.out.2 (by kernel_rfl) rfl (rR_one _ _ _ _) ?_))
 refine bodyPost_ret (results_ct rfl _ _ w.heap.size 24 zR (0, 0) _ rfl (setRow_heap _ _ zR _ 24 (0, 0) HD.out.2) hu1 rfl (by kernel_rfl)) rfl ?_
 exact ⟨rfl, below_setRow HD.out.1 (Nat.le_refl _) _⟩
set_option maxHeartbeats 8000000 in
set_option maxRecDepth 100000 in
theorem rules_parse_bad1 (a0 : ByteArray) (w : World) (hs : a0.size < 1000000) (c0 : Int) (hb0 : 0 < a0.size) (hb1 : 1 < a0.size) (hc0 : ((a0[0]'hb0).toNat : Int) = c0)
  (hact : ∀ w, Calls Tryd.prog 36 #[.int .u8 c0] w fun e w' => e = .returned (.int .i64 0) ∧ Below w.heap.size w w') : Calls Tryd.prog 11 #[.string a0] w fun e w' => e = .returned (.tuple #[.agg zR, .int .i64 5]) ∧ Below w.heap.size w w' := by
 have hu1 := Tryd.underlying24
 have HD := Aside0.mk (B1.start 24 w zR)
 have l1 : ((a0.size : Int) < 2) = False := eq_false (by omega)
 have l2 : (a0.size < 2) = False := eq_false (by omega)
 have l3 : ((0 : Int) < (a0.size : Int)) = True := eq_true (by omega)
 have l4 : (0 < a0.size) = True := eq_true hb0
 go_enter Tryd.func11, Tryd.ntmps11
 go_wp2_with (first | (go_at_call 36; (with_reducible refine (hact _).mono ?_); rintro e w2 ⟨rfl, hb⟩; have n0_ := Aside0.mk (B1.step HD.out hb); clear HD hb; have HD := n0_; clear n0_) | ((with_reducible refine gate_store (t := 24) (p := 2) rfl ?_); refine wpList_store_rowTo rfl 24 (.tmp 2) (.tmp 20) rfl rfl w.heap.size zR rfl rfl 24 zR HD.out.2 (by kernel_rfl) rfl (rR_one _ _ _ _) ?_))
 refine bodyPost_ret (results_ct rfl _ _ w.heap.size 24 zR (0, 0) _ rfl (setRow_heap _ _ zR _ 24 (0, 0) HD.out.2) hu1 rfl (by kernel_rfl)) rfl ?_
 exact ⟨rfl, below_setRow HD.out.1 (Nat.le_refl _) _⟩
set_option maxHeartbeats 8000000 in
set_option maxRecDepth 100000 in
theorem rules_parse_bad2 (a0 : ByteArray) (w : World) (hs : a0.size < 1000000) (c0 c1 : Int) (hb0 : 0 < a0.size) (hb1 : 1 < a0.size) (hc0 : ((a0[0]'hb0).toNat : Int) = c0) (hc1 : ((a0[1]'hb1).toNat : Int) = c1) (h32 : c1 ≠ 32)
  (a : Int) (hact : ∀ w, Calls Tryd.prog 36 #[.int .u8 c0] w fun e w' => e = .returned (.int .i64 a) ∧ Below w.heap.size w w') (ha : a ≠ 0) : Calls Tryd.prog 11 #[.string a0] w fun e w' => e = .returned (.tuple #[.agg zR, .int .i64 5]) ∧ Below w.heap.size w w' := by
 have hu1 := Tryd.underlying24
 have HD := Aside0.mk (B1.start 24 w zR)
 have l1 : ((a0.size : Int) < 2) = False := eq_false (by omega)
 have l2 : (a0.size < 2) = False := eq_false (by omega)
 have l3 : ((0 : Int) < (a0.size : Int)) = True := eq_true (by omega)
 have l4 : (0 < a0.size) = True := eq_true hb0
 have l5 : ((1 : Int) < (a0.size : Int)) = True := eq_true (by omega)
 have l6 : (1 < a0.size) = True := eq_true hb1
 have q0 : (a == 0) = false := beq_eq_false_iff_ne.2 ha
 have q1 : (c1 == 32) = false := beq_eq_false_iff_ne.2 h32
 go_enter Tryd.func11, Tryd.ntmps11
 go_wp2_with (first | (go_at_call 36; (with_reducible refine (hact _).mono ?_); rintro e w2 ⟨rfl, hb⟩; have n0_ := Aside0.mk (B1.step HD.out hb); clear HD hb; have HD := n0_; clear n0_) | ((with_reducible refine gate_store (t := 24) (p := 2) rfl ?_); refine wpList_store_rowTo rfl 24 (.tmp 2) (.tmp 20) rfl rfl w.heap.size zR rfl rfl 24 zR HD.out.2 (by kernel_rfl) rfl (rR_one _ _ _ _) ?_))
 refine bodyPost_ret (results_ct rfl _ _ w.heap.size 24 zR (0, 0) _ rfl (setRow_heap _ _ zR _ 24 (0, 0) HD.out.2) hu1 rfl (by kernel_rfl)) rfl ?_
 exact ⟨rfl, below_setRow HD.out.1 (Nat.le_refl _) _⟩
theorem rules_Parse.calls (a0 : ByteArray) (r1 : Int) (r2 : ByteArray) (r3 : Bool) (r4 : Bool) (r5 : Int) (w : World) (h : rules_Parse.f a0 = some (r1, r2, r3, r4, r5)) :
  Calls Tryd.prog 11 #[.string a0] w fun e w' => e = .returned (.tuple #[.agg #[.int .i64 r1, .string r2, .bool r3, .bool r4], .int .i64 r5]) ∧ Below w.heap.size w w' := by
 unfold rules_Parse.f at h
 have nil : ∀ e : Int, some (nilR e) = some (r1, r2, r3, r4, r5) → (Value.tuple #[.agg zR, .int .i64 e]) = .tuple #[.agg #[.int .i64 r1, .string r2, .bool r3, .bool r4], .int .i64 r5] := fun e he => by
  have := Option.some.inj he
  simp only [nilR, Prod.mk.injEq] at this
  obtain ⟨rfl, rfl, rfl, rfl, rfl⟩ := this
  rfl
 by_cases hs : a0.size < 1000000
 ·rw [if_pos hs] at h
  by_cases h2 : a0.size < 2
  ·rw [if_pos h2] at h
   rw [← nil 5 h]
   exact rules_parse_bad0 a0 w h2
  ·rw [if_neg h2] at h
   obtain ⟨a, hA, h⟩ := Option.bind_eq_some_iff.1 h
   have hact := fun w => rules_act.calls 20 (bt a0 0) a w hA
   have e0 : ((a0[0]'(by omega)).toNat : Int) = bt a0 0 := bt_at a0 0 _
   have e1 : ((a0[1]'(by omega)).toNat : Int) = bt a0 1 := bt_at a0 1 _
   by_cases ha : a = 0
   ·subst ha
    rw [if_pos (.inl rfl)] at h
    rw [← nil 5 h]
    exact rules_parse_bad1 a0 w hs _ (by omega) (by omega) e0 hact
   ·by_cases h32 : bt a0 1 = 32
    ·rw [if_neg (fun h => h.elim ha (fun h => h h32))] at h
     obtain ⟨⟨p1, an⟩, hB, h⟩ := Option.bind_eq_some_iff.1 h
     obtain ⟨⟨p2, d⟩, hD, h⟩ := Option.bind_eq_some_iff.1 h
     obtain ⟨er, hE, h⟩ := Option.bind_eq_some_iff.1 h
     have hpre : ∀ w, Calls Tryd.prog 37 #[.string (a0.extract 2 a0.size), .string (⟨#[47]⟩ : ByteArray)] w fun e w' => e = .returned (.tuple #[.string p1, .bool an]) ∧ w' = w := fun w => by
      obtain ⟨rfl, rfl⟩ := Prod.mk.inj (Option.some.inj hB)
      exact Tryd.strings_CutPrefix _ _ w
     have hsuf : ∀ w, Calls Tryd.prog 38 #[.string p1, .string (⟨#[47]⟩ : ByteArray)] w fun e w' => e = .returned (.tuple #[.string p2, .bool d]) ∧ w' = w := fun w => by
      unfold strings_CutSuffix.f at hD
      split at hD
      ·rename_i hs
       obtain ⟨rfl, rfl⟩ := Prod.mk.inj (Option.some.inj hD)
       exact Tryd.strings_CutSuffix _ _ w hs
      ·cases hD
     have hw := rules_parse_walk a0 w hs _ _ (by omega) (by omega) e0 e1 h32 a hact ha p1 an hpre p2 d hsuf er (fun w => rules_check.calls a p2 d an er w hE)
     by_cases hz : er = 0
     ·rw [if_pos hz] at h hw
      have := Option.some.inj h
      simp only [Prod.mk.injEq] at this
      obtain ⟨rfl, rfl, rfl, rfl, rfl⟩ := this
      exact hw
     ·rw [if_neg hz] at h hw
      rw [← nil er h]
      exact hw
    ·rw [if_pos (.inr h32)] at h
     rw [← nil 5 h]
     exact rules_parse_bad2 a0 w hs _ _ (by omega) (by omega) e0 e1 h32 a hact ha
 ·rw [if_neg hs] at h
  cases h
end Go.Proofs.YtioehkeocddniaaDoor.PA
namespace Go.Proofs.YtioehkeocddniaaDoor.PA
open Go.RowKit Go.Proofs.YtioehkeocddniaaDoorW.PrintWords Go.Proofs.YtioehkeocddniaaDoorW.PrintLast Go.Proofs.YtioehkeocddniaaDoorW.PrintMore
attribute [local go_sem] max2_int min2_int max_two min_two max_three min_three max_four min_four
set_option linter.unusedVariables false
set_option linter.unusedSimpArgs false
open Go.Shelf
def Tryd.lays221_ren : Go.Shelf.Ren := ⟨fun | 221 => 61 | 268 => 74 | 138 => 75 | 143 => 62 | 195 => 83 | 197 => 84 | 218 => 85 | 219 => 76 | 260 => 93 | 217 => 78 | 225 => 86 | 224 => 87 | 267 => 88 | 266 => 90 | 314 => 94 | n => n, fun | 9 => 9 | 3 => 3 | 31 => 53 | 4 => 4 | 0 => 0 | 105 => 100 | 21 => 21 | 5 => 5 | 46 => 38 | 119 => 110 | 139 => 113 | 138 => 112 | 146 => 105 | 51 => 104 | n => n, fun | 1 => 0 | 3 => 1 | 4 => 2 | n => n⟩
theorem Tryd.lays221 : Go.Proofs.Lays.n221 Tryd.prog Tryd.lays221_ren := {
 mixed := by kernel_rfl
 f138 := Tryd.func75.trans (congrArg some (by kernel_rfl))
 f143 := Tryd.func62.trans (congrArg some (by kernel_rfl))
 f195 := Tryd.func83.trans (congrArg some (by kernel_rfl))
 f197 := Tryd.func84.trans (congrArg some (by kernel_rfl))
 f217 := Tryd.func78.trans (congrArg some (by kernel_rfl))
 f218 := Tryd.func85.trans (congrArg some (by kernel_rfl))
 f219 := Tryd.func76.trans (congrArg some (by kernel_rfl))
 f221 := Tryd.func61.trans (congrArg some (by kernel_rfl))
 f224 := Tryd.func87.trans (congrArg some (by kernel_rfl))
 f225 := Tryd.func86.trans (congrArg some (by kernel_rfl))
 f260 := Tryd.func93.trans (congrArg some (by kernel_rfl))
 f266 := Tryd.func90.trans (congrArg some (by kernel_rfl))
 f267 := Tryd.func88.trans (congrArg some (by kernel_rfl))
 f268 := Tryd.func74.trans (congrArg some (by kernel_rfl))
 f314 := Tryd.func94.trans (congrArg some (by kernel_rfl))
 t0 := Tryd.underlying0
 a0 := Tryd.isAgg0
 z0 := Tryd.sizeOf0
 v0 := Tryd.zeroValue0
 t3 := Tryd.underlying3
 a3 := Tryd.isAgg3
 z3 := Tryd.sizeOf3
 v3 := Tryd.zeroValue3
 t4 := Tryd.underlying4
 a4 := Tryd.isAgg4
 z4 := Tryd.sizeOf4
 v4 := Tryd.zeroValue4
 t5 := Tryd.underlying5
 a5 := Tryd.isAgg5
 z5 := Tryd.sizeOf5
 v5 := Tryd.zeroValue5
 t9 := Tryd.underlying9
 a9 := Tryd.isAgg9
 z9 := Tryd.sizeOf9
 v9 := Tryd.zeroValue9
 t21 := Tryd.underlying21
 a21 := Tryd.isAgg21
 z21 := Tryd.sizeOf21
 v21 := Tryd.zeroValue21
 t31 := Tryd.underlying53
 a31 := Tryd.isAgg53
 z31 := Tryd.sizeOf53
 v31 := Tryd.zeroValue53
 t46 := Tryd.underlying38
 a46 := Tryd.isAgg38
 z46 := Tryd.sizeOf38
 v46 := Tryd.zeroValue38
 t51 := Tryd.underlying104
 a51 := Tryd.isAgg104
 z51 := Tryd.sizeOf104
 v51 := Tryd.zeroValue104
 t105 := Tryd.underlying100
 a105 := Tryd.isAgg100
 z105 := Tryd.sizeOf100
 v105 := Tryd.zeroValue100
 t119 := Tryd.underlying110
 a119 := Tryd.isAgg110
 z119 := Tryd.sizeOf110
 t138 := Tryd.underlying112
 a138 := Tryd.isAgg112
 z138 := Tryd.sizeOf112
 v138 := Tryd.zeroValue112
 t139 := Tryd.underlying113
 a139 := Tryd.isAgg113
 z139 := Tryd.sizeOf113
 v139 := Tryd.zeroValue113
 t146 := Tryd.underlying105
 a146 := Tryd.isAgg105
 z146 := Tryd.sizeOf105
 v146 := Tryd.zeroValue105
 g1 := by kernel_rfl
 g3 := by kernel_rfl
 g4 := by kernel_rfl }
def Tryd.lays146_ren : Go.Shelf.Ren := ⟨fun | 146 => 41 | 221 => 61 | 268 => 74 | 138 => 75 | 143 => 62 | 195 => 83 | 197 => 84 | 218 => 85 | 219 => 76 | 260 => 93 | 217 => 78 | 225 => 86 | 224 => 87 | 267 => 88 | 266 => 90 | 314 => 94 | n => n, fun | 9 => 9 | 31 => 53 | 3 => 3 | 4 => 4 | 0 => 0 | 105 => 100 | 21 => 21 | 5 => 5 | 46 => 38 | 119 => 110 | 139 => 113 | 138 => 112 | 146 => 105 | 51 => 104 | n => n, fun | 1 => 0 | 3 => 1 | 4 => 2 | n => n⟩
theorem Tryd.lays146 : Go.Proofs.Lays.n146 Tryd.prog Tryd.lays146_ren := {
 mixed := by kernel_rfl
 f138 := Tryd.func75.trans (congrArg some (by kernel_rfl))
 f143 := Tryd.func62.trans (congrArg some (by kernel_rfl))
 f146 := Tryd.func41.trans (congrArg some (by kernel_rfl))
 f195 := Tryd.func83.trans (congrArg some (by kernel_rfl))
 f197 := Tryd.func84.trans (congrArg some (by kernel_rfl))
 f217 := Tryd.func78.trans (congrArg some (by kernel_rfl))
 f218 := Tryd.func85.trans (congrArg some (by kernel_rfl))
 f219 := Tryd.func76.trans (congrArg some (by kernel_rfl))
 f221 := Tryd.func61.trans (congrArg some (by kernel_rfl))
 f224 := Tryd.func87.trans (congrArg some (by kernel_rfl))
 f225 := Tryd.func86.trans (congrArg some (by kernel_rfl))
 f260 := Tryd.func93.trans (congrArg some (by kernel_rfl))
 f266 := Tryd.func90.trans (congrArg some (by kernel_rfl))
 f267 := Tryd.func88.trans (congrArg some (by kernel_rfl))
 f268 := Tryd.func74.trans (congrArg some (by kernel_rfl))
 f314 := Tryd.func94.trans (congrArg some (by kernel_rfl))
 t0 := Tryd.underlying0
 a0 := Tryd.isAgg0
 z0 := Tryd.sizeOf0
 v0 := Tryd.zeroValue0
 t3 := Tryd.underlying3
 a3 := Tryd.isAgg3
 z3 := Tryd.sizeOf3
 v3 := Tryd.zeroValue3
 t4 := Tryd.underlying4
 a4 := Tryd.isAgg4
 z4 := Tryd.sizeOf4
 v4 := Tryd.zeroValue4
 t5 := Tryd.underlying5
 a5 := Tryd.isAgg5
 z5 := Tryd.sizeOf5
 v5 := Tryd.zeroValue5
 t9 := Tryd.underlying9
 a9 := Tryd.isAgg9
 z9 := Tryd.sizeOf9
 v9 := Tryd.zeroValue9
 t21 := Tryd.underlying21
 a21 := Tryd.isAgg21
 z21 := Tryd.sizeOf21
 v21 := Tryd.zeroValue21
 t31 := Tryd.underlying53
 a31 := Tryd.isAgg53
 z31 := Tryd.sizeOf53
 v31 := Tryd.zeroValue53
 t46 := Tryd.underlying38
 a46 := Tryd.isAgg38
 z46 := Tryd.sizeOf38
 v46 := Tryd.zeroValue38
 t51 := Tryd.underlying104
 a51 := Tryd.isAgg104
 z51 := Tryd.sizeOf104
 v51 := Tryd.zeroValue104
 t105 := Tryd.underlying100
 a105 := Tryd.isAgg100
 z105 := Tryd.sizeOf100
 v105 := Tryd.zeroValue100
 t119 := Tryd.underlying110
 a119 := Tryd.isAgg110
 z119 := Tryd.sizeOf110
 t138 := Tryd.underlying112
 a138 := Tryd.isAgg112
 z138 := Tryd.sizeOf112
 v138 := Tryd.zeroValue112
 t139 := Tryd.underlying113
 a139 := Tryd.isAgg113
 z139 := Tryd.sizeOf113
 v139 := Tryd.zeroValue113
 t146 := Tryd.underlying105
 a146 := Tryd.isAgg105
 z146 := Tryd.sizeOf105
 v146 := Tryd.zeroValue105
 g1 := by kernel_rfl
 g3 := by kernel_rfl
 g4 := by kernel_rfl }
open Go.RowKit Go.Lib in
theorem Tryd.strings_Split (s sep : ByteArray) (m : Int) (w : World) (hs : s.size < 4294967281) (hm : w.cell? ⟨0, 0, none⟩ = some (.int .i64 m)) (h1 : 1 ≤ sep.size) :
  Calls Tryd.prog 41 #[.string s, .string sep] w fun e w' =>
   e = .returned (.slice (some ⟨w.heap.size, 0, none⟩) (Lib.countB s sep + 1) (Lib.countB s sep + 1)) ∧ w' = w.alloc (.cells ((Lib.splitB sep 0 (Lib.countB s sep) s).map Value.string).toArray 9) := Any.strings_Split Tryd.lays146 (by kernel_rfl) s sep m w hs hm h1
def splitSB (s sep : ByteArray) : List ByteArray := Lib.splitB sep 0 (Lib.countB s sep) s
def strings_Split.f (a0 : ByteArray) (a1 : ByteArray) : Option (List ByteArray) := if a0.size < 4294967281 ∧ a1.size = 1 then some (splitSB a0 a1) else none
set_option maxHeartbeats 1000000 in
set_option maxRecDepth 100000 in
theorem strings_Split.calls (a0 : ByteArray) (a1 : ByteArray) (r : List ByteArray) (w : World) (h : strings_Split.f a0 a1 = some r) :
  Calls Tryd.prog 41 #[.string a0, .string a1] w fun e w' => ∃ v0_ : Value, e = .returned (v0_) ∧ Kd.R Kd.string 9 w' w.heap.size (fun _ => True) v0_ r ∧ Below w.heap.size w w' := by
 unfold strings_Split.f at h
 by_cases hs : a0.size < 4294967281 ∧ a1.size = 1
 ·rw [if_pos hs] at h
  obtain rfl := Option.some.inj h
  clear h
  obtain ⟨ch, rfl⟩ := Lib.one_byte a1 hs.2
  have hle := Lib.countB_le (⟨#[ch]⟩ : ByteArray) (Nat.le_of_eq hs.2.symm) a0.size a0 (Nat.le_refl _)
  have hlen := Lib.splitB_all (⟨#[ch]⟩ : ByteArray) (Nat.le_of_eq hs.2.symm) 0 _ a0 rfl
  have hi9 : (Tryd.prog.info? 9).map (fun i => (i.zero, i.size, i.bytes)) = some (some (.string ByteArray.empty), 1, 16) := by kernel_rfl
  have hidx : ∀ x : ByteArray, (Lib.indexB x (⟨#[ch]⟩ : ByteArray)) = Lib.indexByte x.data.toList ch := fun x => Lib.index_one x.data.toList ch
  have c := Any.strings_genSplit_core Tryd.lays221 hi9 a0 (⟨#[ch]⟩ : ByteArray) 0 (-1) (Lib.countB a0 (⟨#[ch]⟩ : ByteArray) + 1) w hs.1 (Nat.le_of_eq hs.2.symm) (Nat.zero_le _)
   (fun x cs hx => by rw [hidx]; exact Any.strings_Index_one { Tryd.lays221 with } x ch _)
   (by
    refine (Any.strings_Count_one { Tryd.lays221 with } a0 ch w).mono fun e w' ⟨he, hw⟩ => ⟨?_, hw⟩
    rw [he]
    show _ = Ending.returned (Value.int .i64 ((Lib.count a0.data.toList [ch] : Nat) : Int))
    rw [Lib.count_one]
    rfl) (by decide) (by decide) (by rw [if_pos (by decide)]; omega)
  rw [Nat.add_sub_cancel, hlen] at c
  have e2 : Lib.cellsOf (Lib.splitB (⟨#[ch]⟩ : ByteArray) 0 (Lib.countB a0 (⟨#[ch]⟩ : ByteArray)) a0) (Lib.countB a0 (⟨#[ch]⟩ : ByteArray) + 1) = ((Lib.splitB (⟨#[ch]⟩ : ByteArray) 0 (Lib.countB a0 (⟨#[ch]⟩ : ByteArray)) a0).map Value.string).toArray := by rw [← hlen]; exact Lib.cellsOf_full _
  rw [e2, ← hlen] at c
  change Calls Tryd.prog 61 #[.string a0, .string (⟨#[ch]⟩ : ByteArray), .int .i64 0, .int .i64 (-1)] w (fun e w' => e = .returned (.slice (some ⟨w.heap.size, 0, none⟩) (splitSB a0 (⟨#[ch]⟩ : ByteArray)).length (splitSB a0 (⟨#[ch]⟩ : ByteArray)).length) ∧ w' = w.alloc (.cells ((splitSB a0 (⟨#[ch]⟩ : ByteArray)).map Value.string).toArray 9)) at c
  have hmax : (splitSB a0 (⟨#[ch]⟩ : ByteArray)).length ≤ maxLen := by
   show (Lib.splitB (⟨#[ch]⟩ : ByteArray) 0 (Lib.countB a0 (⟨#[ch]⟩ : ByteArray)) a0).length ≤ _
   rw [hlen]
   unfold maxLen
   omega
  generalize splitSB a0 (⟨#[ch]⟩ : ByteArray) = l at *
  clear hidx e2 hlen hle
  go_enter Tryd.func41, Tryd.ntmps41
  go_wp2_with (go_at_call 61; refine c.mono ?_; rintro e w' ⟨rfl, hw⟩; rw [hw])
  go_ret
  refine ⟨_, rfl, Kd.R_of_own ?_ (fun _ _ => trivial), below_alloc (Below.refl _ _) _⟩
  have h2 := World.ownsRow_lit (base := w.heap.size) (e := 9) (size := 1) w (l.map Value.string).toArray l.length (Nat.le_refl _) hmax (by simp)
  simpa [encs] using h2
 ·rw [if_neg hs] at h
  exact absurd h (by simp)
end Go.Proofs.YtioehkeocddniaaDoor.PA
namespace Go.Proofs.YtioehkeocddniaaDoor.PA
open Go.RowKit Go.Proofs.YtioehkeocddniaaDoorW.PrintWords Go.Proofs.YtioehkeocddniaaDoorW.PrintLast Go.Proofs.YtioehkeocddniaaDoorW.PrintMore
attribute [local go_sem] max2_int min2_int max_two min_two max_three min_three max_four min_four   -- for this text's walks alone
set_option linter.unusedVariables false
set_option linter.unusedSimpArgs false
mutual
def rules_Lines.l0 : Nat → List (S24) → List ByteArray → Int → Int → Option ((List (S24)) × Int × Int)
 | 0, _, _, _, _ => none
 | k + 1, x5, x11, x12, x13 => if x13 < x12 then (if 0 ≤ x13 then (if x13 < (x11.length : Int) then (if (rdOf ByteArray.empty x11 x13).toList = ([] : List UInt8) then (rules_Lines.j1 k x5 x13 (rdOf ByteArray.empty x11 x13) x11 x12 x13 true) else (if 0 < ((rdOf ByteArray.empty x11 x13).size : Int) then (rules_Lines.j1 k x5 x13 (rdOf ByteArray.empty x11 x13) x11 x12 x13 ((bt (rdOf ByteArray.empty x11 x13) 0) == 35)) else (none))) else (none)) else (none)) else (some (x5, 0, 0))
def rules_Lines.j1 : Nat → List (S24) → Int → ByteArray → List ByteArray → Int → Int → Bool → Option ((List (S24)) × Int × Int)
 | 0, _, _, _, _, _, _, _ => none
 | k + 1, x5, x6, x7, x11, x12, x13, x24 => if x24 = true then (rules_Lines.l0 k x5 x11 x12 (wrap64 (x13 + 1))) else ((rules_Parse.f x7).bind fun bt105 => (if bt105.2.2.2.2 = 0 then (rules_Lines.j2 k x5 x6 bt105.2.2.2.2 x11 x12 x13 ((x5.length : Int) == 64) bt105.1 bt105.2.1 bt105.2.2.1 bt105.2.2.2.1) else (rules_Lines.j2 k x5 x6 bt105.2.2.2.2 x11 x12 x13 false bt105.1 bt105.2.1 bt105.2.2.1 bt105.2.2.2.1)))
def rules_Lines.j2 : Nat → List (S24) → Int → Int → List ByteArray → Int → Int → Bool → Int → ByteArray → Bool → Bool → Option ((List (S24)) × Int × Int)
 | 0, _, _, _, _, _, _, _, _, _, _, _ => none
 | k + 1, x5, x6, x9, x11, x12, x13, x36, x111000, x111001, x111002, x111003 => if x36 = true then (if 7 = 0 then (if x5.length < 4398046511104 then (rules_Lines.l0 k (x5 ++ [(⟨x111000, x111001, x111002, x111003⟩ : S24)]) x11 x12 (wrap64 (x13 + 1))) else (none)) else (some (([] : List (S24)), wrap64 (x6 + 1), 7))) else (if x9 = 0 then (if x5.length < 4398046511104 then (rules_Lines.l0 k (x5 ++ [(⟨x111000, x111001, x111002, x111003⟩ : S24)]) x11 x12 (wrap64 (x13 + 1))) else (none)) else (some (([] : List (S24)), wrap64 (x6 + 1), x9)))
end
def rules_Lines.f (k : Nat) (a0 : ByteArray) : Option ((List (S24)) × Int × Int) := (strings_Split.f a0 (⟨#[10]⟩ : ByteArray)).bind fun t101 => (rules_Lines.l0 k ([] : List (S24)) t101 (t101.length : Int) 0)
set_option maxHeartbeats 8000000 in
set_option maxRecDepth 100000 in
theorem rules_Lines.calls (k : Nat) (a0 : ByteArray) (r1 : List (S24)) (r2 : Int) (r3 : Int) (w : World) (h : rules_Lines.f k a0 = some (r1, r2, r3)) :
  Calls Tryd.prog 13 #[.string a0] w fun e w' => ∃ v0_ : Value, e = .returned (.tuple #[v0_, .int .i64 r2, .int .i64 r3]) ∧ Kd.R k24 24 w' w.heap.size (fun _ => True) v0_ r1 ∧ Below w.heap.size w w' := by
 have hu24 := Tryd.underlying24
 have HB := Aside0.mk (Below.refl w.heap.size w)
 have H : ((strings_Split.f a0 (⟨#[10]⟩ : ByteArray)).bind fun t101 => (rules_Lines.l0 k ([] : List (S24)) t101 (t101.length : Int) 0)) = some (r1, r2, r3) := h
 clear h
 replace H := Option.bind_eq_some_iff.mp H
 obtain ⟨t101, A20, H⟩ := H
 replace H : (rules_Lines.l0 k ([] : List (S24)) t101 (t101.length : Int) 0) = some (r1, r2, r3) := H
 have A2 := Aside0.mk A20
 clear A20
 have H' := Aside0.mk H
 clear H
 go_enter Tryd.func13, Tryd.ntmps13
 go_wp2_with (first | ((with_reducible refine gate_callee (f := 41) rfl ?_); refine goesL_ (some 11) rfl rfl Tryd.func41 (by kernel_rfl) rfl #[.string a0, .string (⟨#[10]⟩ : ByteArray)] rfl (by (try simp only [List.map_toArray, List.map_cons, List.map_nil]); first | done | rfl | (simp only [List.length_drop, List.length_take]; rfl)) ?_; (with_reducible refine (strings_Split.calls a0 (⟨#[10]⟩ : ByteArray) t101 _ A2.out).mono ?_); rintro e w3 ⟨v102, rfl, ho0, hb⟩; refine ⟨_, rfl, ?_⟩; have n0_ := Aside0.mk (Kd.R_lower ho0 (below_size (by repeat (first | (with_reducible first | exact HB.out | apply below_alloc | apply pw_below_drewN | apply below_drew1) | exact HB.out)))); have n1_ := Aside0.mk (below_step (by repeat (first | (with_reducible first | exact HB.out | apply below_alloc | apply pw_below_drewN | apply below_drew1) | exact HB.out)) hb); clear HB; have HO103 := n0_; have HB := n1_; clear n0_ n1_; (try clear hb); (try clear hb2); (try clear hk); (try clear hi); (try clear ho0); obtain ⟨Ao4, co4, eo4⟩ := Kd.R_slice HO103.out; subst eo4))
 go_loopg [5, 13] k (fun kq v5 v13 w' => ∃ (x5_1 : List (S24)) (x13_1 : Int), v13 = .int .i64 x13_1 ∧ Aside0 (rules_Lines.l0 kq x5_1 t101 (t101.length : Int) x13_1 = some (r1, r2, r3)) ∧ Aside0 (kq ≤ k) ∧ Aside0 (Kd.R k24 24 w' w.heap.size (fun _ => True) v5 x5_1) ∧ Aside0 (Kd.R Kd.string 9 w' w.heap.size (fun _ => True) (.slice Ao4 t101.length co4) t101) ∧ Aside0 (Below w.heap.size w w'))
 case atStart => exact ⟨(([] : List (S24))), (0), (by first | rfl | (simp; done) | (simp [*]; done)), H', ⟨Nat.le_refl _⟩, ⟨by first | exact Kd.R_nil _ _ _ _ _ | exact Kd.N_nil _ _ _ _ _ | exact Kd.V_nil _ _ _ _ _ | exact Kd.Q_nil _ _ _ _ _ | exact Kd.S_nil _ _ _ _ _⟩, ⟨by (with_reducible repeat (first | apply Kd.R_alloc | apply Kd.R_drewN | apply Kd.R_drew)); exact HO103.out⟩, ⟨by repeat (first | (with_reducible first | exact HB.out | apply below_alloc | apply pw_below_drewN | apply below_drew1) | exact HB.out)⟩⟩
 case round =>
  clear H'
  try clear c1
  try clear p2
  try clear c4
  obtain ⟨x5_1, x13_1, rfl, HA, HK1, HO_5, HO_11, HB⟩ := hrel
  cases gk with
  | zero => exact absurd HA.out (by simp [rules_Lines.l0])
  | succ k1 =>
   have H := HA.out
   clear HA
   simp only [rules_Lines.l0] at H
   by_cases c5 : x13_1 < (t101.length : Int)
   ·rw [if_pos c5] at H
    have c5b0 : decide (x13_1 < (t101.length : Int)) = true := decide_eq_true c5
    clear c5
    by_cases c6 : 0 ≤ x13_1
    ·rw [if_pos c6] at H
     have c6b0 : decide (0 ≤ x13_1) = true := decide_eq_true c6
     clear c6
     by_cases c7 : x13_1 < (t101.length : Int)
     ·rw [if_pos c7] at H
      have c7b0 : decide (x13_1 < (t101.length : Int)) = true := decide_eq_true c7
      clear c7
      have HC8 := Aside0.mk H
      clear H
      have p104 : 0 ≤ (x13_1 : Int) := of_decide_eq_true (by first | (with_reducible assumption) | assumption)
      have q104 : x13_1 < (t101.length : Int) := of_decide_eq_true (by first | (with_reducible assumption) | assumption)
      obtain ⟨ad104, e104, hx104_0⟩ := Kd.at_string (Kd.R_reads' HO_11.out).2.2 x13_1 p104 q104
      cases e104
      replace p104 := eq_true p104
      replace q104 := eq_true q104
      go_upto_region 5 with (fail)
      go_cut [24] (fun v24 wc => ∃ (kq : Nat) (x24_7 : Bool), v24 = .bool x24_7 ∧ Aside0 (rules_Lines.j1 kq x5_1 x13_1 (rdOf ByteArray.empty t101 x13_1) t101 (t101.length : Int) x13_1 x24_7 = some (r1, r2, r3)) ∧ Aside0 (kq ≤ k1) ∧ Aside0 (Kd.R k24 24 wc w.heap.size (fun _ => True) u5 x5_1) ∧ Aside0 (Kd.R Kd.string 9 wc w.heap.size (fun _ => True) (.slice (some ad104) t101.length co4) t101) ∧ Aside0 (Below w.heap.size w wc))
      case first =>
       have H := HC8.out
       clear HC8
       by_cases c9 : (rdOf ByteArray.empty t101 x13_1).toList = ([] : List UInt8)
       ·rw [if_pos c9] at H
        have c9b0 : ((rdOf ByteArray.empty t101 x13_1).toList == ([] : List UInt8)) = true := beq_iff_eq.mpr c9
        have c9b1 : ((rdOf ByteArray.empty t101 x13_1).toList != ([] : List UInt8)) = false := bne_eq_false_iff_eq.mpr c9
        clear c9
        (first | rw [c9b0] | (simp only [i64_w, i32_w]; rw [c9b0]) | skip)
        have H' := Aside0.mk H
        clear H
        go_wp2
        go_meet
        case rel => exact ⟨_, (true), (by first | rfl | (simp; done) | (simp [*]; done)), H', ⟨by have := HK1.out; first | omega | exact Nat.le_refl _⟩, ⟨by (with_reducible repeat (first | apply Kd.R_alloc | apply Kd.R_drewN | apply Kd.R_drew)); exact HO_5.out⟩, ⟨by (with_reducible repeat (first | apply Kd.R_alloc | apply Kd.R_drewN | apply Kd.R_drew)); exact HO_11.out⟩, ⟨by repeat (first | (with_reducible first | exact HB.out | apply below_alloc | apply pw_below_drewN | apply below_drew1) | exact HB.out)⟩⟩
       ·rw [if_neg c9] at H
        have c9b0 : ((rdOf ByteArray.empty t101 x13_1).toList == ([] : List UInt8)) = false := beq_eq_false_iff_ne.mpr c9
        have c9b1 : ((rdOf ByteArray.empty t101 x13_1).toList != ([] : List UInt8)) = true := bne_iff_ne.mpr c9
        (first | rw [c9b0] | (simp only [i64_w, i32_w]; rw [c9b0]) | skip)
        by_cases c10 : 0 < ((rdOf ByteArray.empty t101 x13_1).size : Int)
        ·rw [if_pos c10] at H
         have c10b0 : decide (0 < ((rdOf ByteArray.empty t101 x13_1).size : Int)) = true := decide_eq_true c10
         have c10b1 : decide (0 < (rdOf ByteArray.empty t101 x13_1).size) = true := decide_eq_true (by omega)
         clear c10
         have H' := Aside0.mk H
         clear H
         have p11 : 0 ≤ (0 : Int) := (by omega)
         have q11 : 0 < (rdOf ByteArray.empty t101 x13_1).size := (by have : (0 : Int) < ((rdOf ByteArray.empty t101 x13_1).size : Int) := of_decide_eq_true (by first | (with_reducible assumption) | assumption); omega)
         have hx11 : ∀ h : 0 < (rdOf ByteArray.empty t101 x13_1).size, (((rdOf ByteArray.empty t101 x13_1)[0]'h).toNat : Int) = bt (rdOf ByteArray.empty t101 x13_1) 0 := bt_at (rdOf ByteArray.empty t101 x13_1) 0
         clear p11
         have qi11 : (0 < ((rdOf ByteArray.empty t101 x13_1).size : Int)) = True := eq_true (of_decide_eq_true (by first | (with_reducible assumption) | assumption))
         replace q11 := eq_true q11
         go_wp2
         go_meet
         case rel => exact ⟨_, (((bt (rdOf ByteArray.empty t101 x13_1) 0) == 35)), (by first | rfl | (simp; done) | (simp [*]; done)), H', ⟨by have := HK1.out; first | omega | exact Nat.le_refl _⟩, ⟨by (with_reducible repeat (first | apply Kd.R_alloc | apply Kd.R_drewN | apply Kd.R_drew)); exact HO_5.out⟩, ⟨by (with_reducible repeat (first | apply Kd.R_alloc | apply Kd.R_drewN | apply Kd.R_drew)); exact HO_11.out⟩, ⟨by repeat (first | (with_reducible first | exact HB.out | apply below_alloc | apply pw_below_drewN | apply below_drew1) | exact HB.out)⟩⟩
        ·rw [if_neg c10] at H
         exact absurd H (by simp)
      case rest =>
       clear HC8
       try clear c1
       try clear p1
       try clear q1
       try clear hx1
       try clear qi1
       try clear p2
       try clear c4
       try clear c5
       try clear c5b0
       try clear c6
       try clear c6b0
       try clear c7
       try clear c7b0
       try clear c9
       try clear c9b0
       try clear c9b1
       try clear c10
       try clear c10b0
       try clear c10b1
       try clear p10
       try clear q10
       try clear hx10
       try clear p11
       try clear q11
       try clear hx11
       try clear qi11
       try clear hx104_0
       try clear p104
       try clear p11
       try clear p2
       try clear q104
       try clear q11
       obtain ⟨kq, x24_7, rfl, HA, HJ7, HO_5, HO_11, HB⟩ := hcut
       cases kq with
       | zero => exact absurd HA.out (by simp [rules_Lines.j1])
       | succ kj7 =>
        have H := HA.out
        clear HA
        simp only [rules_Lines.j1] at H
        by_cases c12 : x24_7 = true
        ·subst c12
         have H1 : (rules_Lines.l0 kj7 x5_1 t101 (t101.length : Int) (wrap64 (x13_1 + 1))) = some (r1, r2, r3) := by rw [if_pos rfl] at H; exact H
         clear H
         have H := H1
         clear H1
         have H' := Aside0.mk H
         clear H
         go_wp2
         go_roundg kj7
         case measure => have := HK1.out; have := HJ7.out; omega
         case rel => exact ⟨(x5_1), (wrap64 (x13_1 + 1)), (by first | rfl | (simp; done) | (simp [*]; done)), H', ⟨by have := HK1.out; have := HJ7.out; omega⟩, ⟨by (with_reducible repeat (first | apply Kd.R_alloc | apply Kd.R_drewN | apply Kd.R_drew)); exact HO_5.out⟩, ⟨by (with_reducible repeat (first | apply Kd.R_alloc | apply Kd.R_drewN | apply Kd.R_drew)); exact HO_11.out⟩, ⟨by repeat (first | (with_reducible first | exact HB.out | apply below_alloc | apply pw_below_drewN | apply below_drew1) | exact HB.out)⟩⟩
        ·replace c12 := Bool.eq_false_iff.mpr c12
         subst c12
         have H1 : ((rules_Parse.f (rdOf ByteArray.empty t101 x13_1)).bind fun bt105 => (if bt105.2.2.2.2 = 0 then (rules_Lines.j2 kj7 x5_1 x13_1 bt105.2.2.2.2 t101 (t101.length : Int) x13_1 ((x5_1.length : Int) == 64) bt105.1 bt105.2.1 bt105.2.2.1 bt105.2.2.2.1) else (rules_Lines.j2 kj7 x5_1 x13_1 bt105.2.2.2.2 t101 (t101.length : Int) x13_1 false bt105.1 bt105.2.1 bt105.2.2.1 bt105.2.2.2.1))) = some (r1, r2, r3) := by rw [if_neg (show ¬ (false = true) by decide)] at H; exact H
         clear H
         have H := H1
         clear H1
         replace H := Option.bind_eq_some_iff.mp H
         obtain ⟨⟨t105, t106, t107, t108, t109⟩, A130, H⟩ := H
         replace H : (if t109 = 0 then (rules_Lines.j2 kj7 x5_1 x13_1 t109 t101 (t101.length : Int) x13_1 ((x5_1.length : Int) == 64) t105 t106 t107 t108) else (rules_Lines.j2 kj7 x5_1 x13_1 t109 t101 (t101.length : Int) x13_1 false t105 t106 t107 t108)) = some (r1, r2, r3) := H
         have A13 := Aside0.mk A130
         clear A130
         have HC14 := Aside0.mk H
         clear H
         go_upto_region 7 with (first | ((with_reducible refine gate_callee (f := 11) rfl ?_); refine goesL_ (some 27) rfl rfl Tryd.func11 (by kernel_rfl) rfl #[.string (rdOf ByteArray.empty t101 x13_1)] rfl (by (try simp only [List.map_toArray, List.map_cons, List.map_nil]); first | done | rfl | (simp only [List.length_drop, List.length_take]; rfl)) ?_; (with_reducible refine (rules_Parse.calls (rdOf ByteArray.empty t101 x13_1) t105 t106 t107 t108 t109 _ A13.out).mono ?_); rintro e w15 ⟨rfl, hb⟩; refine ⟨_, rfl, ?_⟩; have n0_ := Aside0.mk (Kd.R_below (by (with_reducible repeat (first | apply Kd.R_alloc | apply Kd.R_drewN | apply Kd.R_drew)); exact HO_5.out) hb); have n1_ := Aside0.mk (Kd.R_below (by (with_reducible repeat (first | apply Kd.R_alloc | apply Kd.R_drewN | apply Kd.R_drew)); exact HO_11.out) hb); have n2_ := Aside0.mk (below_step (by repeat (first | (with_reducible first | exact HB.out | apply below_alloc | apply pw_below_drewN | apply below_drew1) | exact HB.out)) hb); clear HO_5; clear HO_11; clear HB; have HO_5 := n0_; have HO_11 := n1_; have HB := n2_; clear n0_ n1_ n2_; (try clear hb); (try clear hb2); (try clear hk); (try clear hi)) | ((with_reducible refine gate_dst (N := 8) rfl ?_); (try (refine gate_guard (by rfl) ?_; dsimp only)); refine box_event ?hg (N := 8) ?hd (cs := #[.int .i64 0, .string (⟨#[]⟩ : ByteArray), .bool false, .bool false]) (t := 24) ?hr ?_; (case hd => rfl); (case hg => rfl); (case hr => first | (go_simp; done) | (go_simp; rfl)); intro gb110 hg w16 hbox hb; have n0_ := Aside0.mk (Kd.R_below (Kd.R_elderB (by (with_reducible repeat (first | apply Kd.R_alloc | apply Kd.R_drewN | apply Kd.R_drew)); exact HO_5.out) gb110 (Nat.le_of_eq hg.symm)) hb); have n1_ := Aside0.mk (Kd.R_below (by (with_reducible repeat (first | apply Kd.R_alloc | apply Kd.R_drewN | apply Kd.R_drew)); exact HO_11.out) hb); have n2_ := Aside0.mk (below_step (by repeat (first | (with_reducible first | exact HB.out | apply below_alloc | apply pw_below_drewN | apply below_drew1) | exact HB.out)) hb); have n3_ := Aside0.mk (hbox); have n4_ := Aside0.mk ((by rw [hg]; exact (below_size (by repeat (first | (with_reducible first | exact HB.out | apply below_alloc | apply pw_below_drewN | apply below_drew1) | exact HB.out))) : w.heap.size ≤ gb110)); have n5_ := Aside0.mk ((by rw [hg]; exact (below_size (by repeat (first | (with_reducible first | exact HB.out | apply below_alloc | apply pw_below_drewN | apply below_drew1) | exact HB.out))) : w.heap.size ≤ gb110)); clear HO_5; clear HO_11; clear HB; have HO_5 := n0_; have HO_11 := n1_; have HB := n2_; have BK110 := n3_; have GW110 := n4_; have GE110 := n5_; clear n0_ n1_ n2_ n3_ n4_ n5_; clear hb hbox hg; have hcz17_0 : w16.cell? ⟨gb110, 0, none⟩ = some (.int .i64 0) := (blk_cell BK110.out 0).trans rfl; have hcz17_1 : w16.cell? ⟨gb110, 1, none⟩ = some (.string (⟨#[]⟩ : ByteArray)) := (blk_cell BK110.out 1).trans rfl; have hcz17_2 : w16.cell? ⟨gb110, 2, none⟩ = some (.bool false) := (blk_cell BK110.out 2).trans rfl; have hcz17_3 : w16.cell? ⟨gb110, 3, none⟩ = some (.bool false) := (blk_cell BK110.out 3).trans rfl; have hfz17_0 := blk_frozen BK110.out 0; have hfz17_1 := blk_frozen BK110.out 1; have hfz17_2 := blk_frozen BK110.out 2; have hfz17_3 := blk_frozen BK110.out 3))
         (try simp only [Act.put, List.setIfInBounds_toArray, List.set_cons_zero, List.set_cons_succ])
         go_cut [36] (fun v36 wc => ∃ (kq : Nat) (x36_13 : Bool), v36 = .bool x36_13 ∧ Aside0 (rules_Lines.j2 kq x5_1 x13_1 t109 t101 (t101.length : Int) x13_1 x36_13 t105 t106 t107 t108 = some (r1, r2, r3)) ∧ Aside0 (kq ≤ kj7) ∧ Aside0 (Kd.R k24 24 wc w.heap.size (fun k_ => k_ ≠ gb110) u5 x5_1) ∧ Aside0 (Kd.R Kd.string 9 wc w.heap.size (fun _ => True) (.slice (some ad104) t101.length co4) t101) ∧ Aside0 (wc.heap[gb110]? = some (.cells #[.int .i64 t105, .string t106, .bool t107, .bool t108] 24 (0, 0))) ∧ Aside0 (Below w.heap.size w wc))
         case first =>
          have H := HC14.out
          clear HC14
          by_cases c18 : t109 = 0
          ·rw [if_pos c18] at H
           have c18b0 : (t109 == 0) = true := beq_iff_eq.mpr c18
           have c18b1 : (t109 != 0) = false := bne_eq_false_iff_eq.mpr c18
           clear c18
           (first | rw [c18b0] | (simp only [i64_w, i32_w]; rw [c18b0]) | skip)
           have H' := Aside0.mk H
           clear H
           obtain ⟨Ao19, co19, eo19⟩ := Kd.R_slice HO_5.out
           subst eo19
           go_wp2
           go_meet
           case rel => exact ⟨_, (((x5_1.length : Int) == 64)), (by first | rfl | (simp; done) | (simp [*]; done)), H', ⟨by have := HK1.out; have := HJ7.out; first | omega | exact Nat.le_refl _⟩, ⟨by (with_reducible repeat (first | apply Kd.R_alloc | apply Kd.R_drewN | apply Kd.R_drew)); exact Kd.R_mono (Kd.R_far (p := ⟨gb110, 3, none⟩) (Kd.R_far (p := ⟨gb110, 2, none⟩) (Kd.R_far (p := ⟨gb110, 1, none⟩) (Kd.R_far (p := ⟨gb110, 0, none⟩) (Kd.R_mono HO_5.out (fun k_ hk => (⟨hk, hk.2⟩ : _ ∧ k_ ≠ gb110))) (fun _ hk => hk.2) (.int .i64 t105)) (fun _ hk => hk.2) (.string t106)) (fun _ hk => hk.2) (.bool t107)) (fun _ hk => hk.2) (.bool t108)) (fun _ hk => hk.1.2)⟩, ⟨by (with_reducible repeat (first | apply Kd.R_alloc | apply Kd.R_drewN | apply Kd.R_drew)); exact Kd.R_mono (Kd.R_far (p := ⟨gb110, 3, none⟩) (Kd.R_far (p := ⟨gb110, 2, none⟩) (Kd.R_far (p := ⟨gb110, 1, none⟩) (Kd.R_far (p := ⟨gb110, 0, none⟩) (Kd.R_types HO_11.out BK110.out (by decide)) (fun _ hk => hk.2) (.int .i64 t105)) (fun _ hk => hk.2) (.string t106)) (fun _ hk => hk.2) (.bool t107)) (fun _ hk => hk.2) (.bool t108)) (fun _ hk => trivial)⟩, ⟨by (with_reducible repeat (first | refine blk_drewN ?_ _ | refine blk_drew ?_ | refine blk_alloc ?_ _)); refine blk_put (cs := #[.int .i64 t105, .string t106, .bool t107, .bool false]) ?_ 3 _ rfl; (with_reducible repeat (first | refine blk_drewN ?_ _ | refine blk_drew ?_ | refine blk_alloc ?_ _)); refine blk_put (cs := #[.int .i64 t105, .string t106, .bool false, .bool false]) ?_ 2 _ rfl; (with_reducible repeat (first | refine blk_drewN ?_ _ | refine blk_drew ?_ | refine blk_alloc ?_ _)); refine blk_put (cs := #[.int .i64 t105, .string (⟨#[]⟩ : ByteArray), .bool false, .bool false]) ?_ 1 _ rfl; (with_reducible repeat (first | refine blk_drewN ?_ _ | refine blk_drew ?_ | refine blk_alloc ?_ _)); refine blk_put (cs := #[.int .i64 0, .string (⟨#[]⟩ : ByteArray), .bool false, .bool false]) ?_ 0 _ rfl; (with_reducible repeat (first | refine blk_drewN ?_ _ | refine blk_drew ?_ | refine blk_alloc ?_ _)); exact BK110.out⟩, ⟨by repeat (first | (with_reducible first | exact HB.out | apply below_alloc | apply pw_below_drewN | apply below_drew1 | refine below_set ?_ GE110.out) | exact HB.out)⟩⟩
          ·rw [if_neg c18] at H
           have c18b0 : (t109 == 0) = false := beq_eq_false_iff_ne.mpr c18
           have c18b1 : (t109 != 0) = true := bne_iff_ne.mpr c18
           (first | rw [c18b0] | (simp only [i64_w, i32_w]; rw [c18b0]) | skip)
           have H' := Aside0.mk H
           clear H
           go_wp2
           go_meet
           case rel => exact ⟨_, (false), (by first | rfl | (simp; done) | (simp [*]; done)), H', ⟨by have := HK1.out; have := HJ7.out; first | omega | exact Nat.le_refl _⟩, ⟨by (with_reducible repeat (first | apply Kd.R_alloc | apply Kd.R_drewN | apply Kd.R_drew)); exact Kd.R_mono (Kd.R_far (p := ⟨gb110, 3, none⟩) (Kd.R_far (p := ⟨gb110, 2, none⟩) (Kd.R_far (p := ⟨gb110, 1, none⟩) (Kd.R_far (p := ⟨gb110, 0, none⟩) (Kd.R_mono HO_5.out (fun k_ hk => (⟨hk, hk.2⟩ : _ ∧ k_ ≠ gb110))) (fun _ hk => hk.2) (.int .i64 t105)) (fun _ hk => hk.2) (.string t106)) (fun _ hk => hk.2) (.bool t107)) (fun _ hk => hk.2) (.bool t108)) (fun _ hk => hk.1.2)⟩, ⟨by (with_reducible repeat (first | apply Kd.R_alloc | apply Kd.R_drewN | apply Kd.R_drew)); exact Kd.R_mono (Kd.R_far (p := ⟨gb110, 3, none⟩) (Kd.R_far (p := ⟨gb110, 2, none⟩) (Kd.R_far (p := ⟨gb110, 1, none⟩) (Kd.R_far (p := ⟨gb110, 0, none⟩) (Kd.R_types HO_11.out BK110.out (by decide)) (fun _ hk => hk.2) (.int .i64 t105)) (fun _ hk => hk.2) (.string t106)) (fun _ hk => hk.2) (.bool t107)) (fun _ hk => hk.2) (.bool t108)) (fun _ hk => trivial)⟩, ⟨by (with_reducible repeat (first | refine blk_drewN ?_ _ | refine blk_drew ?_ | refine blk_alloc ?_ _)); refine blk_put (cs := #[.int .i64 t105, .string t106, .bool t107, .bool false]) ?_ 3 _ rfl; (with_reducible repeat (first | refine blk_drewN ?_ _ | refine blk_drew ?_ | refine blk_alloc ?_ _)); refine blk_put (cs := #[.int .i64 t105, .string t106, .bool false, .bool false]) ?_ 2 _ rfl; (with_reducible repeat (first | refine blk_drewN ?_ _ | refine blk_drew ?_ | refine blk_alloc ?_ _)); refine blk_put (cs := #[.int .i64 t105, .string (⟨#[]⟩ : ByteArray), .bool false, .bool false]) ?_ 1 _ rfl; (with_reducible repeat (first | refine blk_drewN ?_ _ | refine blk_drew ?_ | refine blk_alloc ?_ _)); refine blk_put (cs := #[.int .i64 0, .string (⟨#[]⟩ : ByteArray), .bool false, .bool false]) ?_ 0 _ rfl; (with_reducible repeat (first | refine blk_drewN ?_ _ | refine blk_drew ?_ | refine blk_alloc ?_ _)); exact BK110.out⟩, ⟨by repeat (first | (with_reducible first | exact HB.out | apply below_alloc | apply pw_below_drewN | apply below_drew1 | refine below_set ?_ GE110.out) | exact HB.out)⟩⟩
         case rest =>
          clear HC14
          try clear c1
          try clear p1
          try clear q1
          try clear hx1
          try clear qi1
          try clear p2
          try clear c4
          try clear c5
          try clear c5b0
          try clear c6
          try clear c6b0
          try clear p6
          try clear c7
          try clear c7b0
          try clear c9
          try clear c9b0
          try clear c9b1
          try clear c10
          try clear c10b0
          try clear c10b1
          try clear p10
          try clear q10
          try clear hx10
          try clear c11
          try clear p11
          try clear q11
          try clear hx11
          try clear qi11
          try clear c12
          try clear c13
          try clear c18
          try clear c18b0
          try clear c18b1
          try clear hcz17_0
          try clear hcz17_1
          try clear hcz17_2
          try clear hcz17_3
          try clear hfz17_0
          try clear hfz17_1
          try clear hfz17_2
          try clear hfz17_3
          try clear hx104_0
          try clear p1
          try clear p10
          try clear p104
          try clear p11
          try clear p2
          try clear q1
          try clear q10
          try clear q104
          try clear q11
          obtain ⟨kq, x36_13, rfl, HA, HJ13, HO_5, HO_11, BK110, HB⟩ := hcut
          cases kq with
          | zero => exact absurd HA.out (by simp [rules_Lines.j2])
          | succ kj13 =>
           have H := HA.out
           clear HA
           simp only [rules_Lines.j2] at H
           by_cases c20 : x36_13 = true
           ·subst c20
            have H1 : (if 7 = 0 then (if x5_1.length < 4398046511104 then (rules_Lines.l0 kj13 (x5_1 ++ [(⟨t105, t106, t107, t108⟩ : S24)]) t101 (t101.length : Int) (wrap64 (x13_1 + 1))) else (none)) else (some (([] : List (S24)), wrap64 (x13_1 + 1), 7))) = some (r1, r2, r3) := by rw [if_pos rfl] at H; exact H
            clear H
            have H := H1
            clear H1
            by_cases c21 : 7 = 0
            ·exact absurd c21 (by decide)
            ·rw [if_neg c21] at H
             have c21b0 : (7 == 0) = false := beq_eq_false_iff_ne.mpr c21
             have c21b1 : (7 != 0) = true := bne_iff_ne.mpr c21
             simp only [Option.some.injEq, Prod.mk.injEq] at H
             obtain ⟨rfl, rfl, rfl⟩ := H
             go_wp2
             go_ret3
             exact ⟨_, by first | rfl | (simp [errW_none, errW_some] <;> rfl) | (simp [*, errW_none, errW_some] <;> rfl), by first | exact Kd.R_nil _ _ _ _ _ | exact Kd.N_nil _ _ _ _ _ | exact Kd.V_nil _ _ _ _ _ | exact Kd.Q_nil _ _ _ _ _ | exact Kd.S_nil _ _ _ _ _, by repeat (first | (with_reducible first | exact HB.out | apply below_alloc | apply pw_below_drewN | apply below_drew1 | refine below_set ?_ GE110.out) | exact HB.out)⟩
           ·replace c20 := Bool.eq_false_iff.mpr c20
            subst c20
            have H1 : (if t109 = 0 then (if x5_1.length < 4398046511104 then (rules_Lines.l0 kj13 (x5_1 ++ [(⟨t105, t106, t107, t108⟩ : S24)]) t101 (t101.length : Int) (wrap64 (x13_1 + 1))) else (none)) else (some (([] : List (S24)), wrap64 (x13_1 + 1), t109))) = some (r1, r2, r3) := by rw [if_neg (show ¬ (false = true) by decide)] at H; exact H
            clear H
            have H := H1
            clear H1
            by_cases c25 : t109 = 0
            ·rw [if_pos c25] at H
             have c25b0 : (t109 == 0) = true := beq_iff_eq.mpr c25
             have c25b1 : (t109 != 0) = false := bne_eq_false_iff_eq.mpr c25
             clear c25
             by_cases c26 : x5_1.length < 4398046511104
             ·rw [if_pos c26] at H
              have LMc26 := Aside0.mk c26
              clear c26
              obtain ⟨y114, hy114⟩ : ∃ y_ : List (S24), y_ = (x5_1 ++ [(⟨t105, t106, t107, t108⟩ : S24)]) := ⟨_, rfl⟩
              replace H : (rules_Lines.l0 kj13 y114 t101 (t101.length : Int) (wrap64 (x13_1 + 1))) = some (r1, r2, r3) := by first | (rw [hy114]; with_reducible exact H) | (have H2_ := (Option.bind_some _ _).symm.trans H; rw [hy114]; with_reducible exact H2_) | (have H2_ := (Option.bind_some _ _).symm.trans H; with_reducible exact H2_) | with_reducible exact H | (rw [hy114]; exact H) | exact H
              have Ny114 := Aside0.mk hy114
              clear hy114
              have H' := Aside0.mk H
              clear H
              have hcz27_0 : wc.cell? ⟨gb110, 0, none⟩ = some (.int .i64 t105) := (blk_cell BK110.out 0).trans rfl
              have hcz27_1 : wc.cell? ⟨gb110, 1, none⟩ = some (.string t106) := (blk_cell BK110.out 1).trans rfl
              have hcz27_2 : wc.cell? ⟨gb110, 2, none⟩ = some (.bool t107) := (blk_cell BK110.out 2).trans rfl
              have hcz27_3 : wc.cell? ⟨gb110, 3, none⟩ = some (.bool t108) := (blk_cell BK110.out 3).trans rfl
              have hfz27_0 := blk_frozen BK110.out 0
              have hfz27_1 := blk_frozen BK110.out 1
              have hfz27_2 := blk_frozen BK110.out 2
              have hfz27_3 := blk_frozen BK110.out 3
              go_wp2_with (first | ((with_reducible refine gate_builtin (b := .append) (xs := #[.tmp 42, .tmp 44]) rfl ?_); (try (refine gate_guard (by rfl) ?_; dsimp only)); at_builtin; refine Kd.R_append k24 (w0 := w) w.heap.size rfl (.tmp 42) (.tmp 44) 28 24 (.agg #[(.int .i64 0), (.string ⟨#[]⟩), (.bool false), (.bool false)]) 32 rfl Tryd.underlying28 info24 rfl (by decide) (by omega) u5 x5_1 (⟨t105, t106, t107, t108⟩ : S24) [.int .i64 t105, .string t106, .bool t107, .bool t108] (fun k_ => k_ ≠ gb110) (fun _ => False) rfl rfl ?aP (fun _ hk => hk.elim) ?aF ?aO ?aB ?aS ?aL ?_; (case aP => exact k24_mkM _ _ _ (⟨t105, t106, t107, t108⟩ : S24)); (case aB => exact (by repeat (first | (with_reducible first | exact HB.out | apply below_alloc | apply pw_below_drewN | apply below_drew1 | refine below_set ?_ GE110.out) | exact HB.out))); (case aF => exact (fun k_ hk => Kd.freshB (g := gb110) (o := .cells #[.int .i64 t105, .string t106, .bool t107, .bool t108] 24 (0, 0)) (by (with_reducible repeat (first | refine blk_drewN ?_ _ | refine blk_drew ?_ | refine blk_alloc ?_ _)); exact BK110.out) k_ hk)); (case aO => exact (by (with_reducible repeat (first | apply Kd.R_alloc | apply Kd.R_drewN | apply Kd.R_drew)); exact HO_5.out)); (case aS => exact (below_size (by repeat (first | (with_reducible first | exact HB.out | apply below_alloc | apply pw_below_drewN | apply below_drew1 | refine below_set ?_ GE110.out) | exact HB.out)))); (case aL => have := LMc26.out; omega); intro v115 w28 ho hb hg hat; rw [← Ny114.out] at ho; have n0_ := Aside0.mk (Kd.R_over' (by (with_reducible repeat (first | apply Kd.R_alloc | apply Kd.R_drewN | apply Kd.R_drew)); exact HO_11.out) (Kd.R_typed (by (with_reducible repeat (first | apply Kd.R_alloc | apply Kd.R_drewN | apply Kd.R_drew)); exact HO_5.out)) (by decide) hg); have n1_ := Aside0.mk (blk_grown (g := gb110) (o := .cells #[.int .i64 t105, .string t106, .bool t107, .bool t108] 24 (0, 0)) (by (with_reducible repeat (first | refine blk_drewN ?_ _ | refine blk_drew ?_ | refine blk_alloc ?_ _)); exact BK110.out) hg (Kd.R_away HO_5.out (fun _ hk => hk))); have n2_ := Aside0.mk (hb); have n3_ := Aside0.mk (ho); clear HO_11; clear BK110; clear HB; clear HO_5; have HO_11 := n0_; have BK110 := n1_; have HB := n2_; have HO116 := n3_; clear n0_ n1_ n2_ n3_; clear ho hb hg hat))
              go_roundg kj13
              case measure => have := HK1.out; have := HJ7.out; have := HJ13.out; omega
              case rel => exact ⟨(y114), (wrap64 (x13_1 + 1)), (by first | rfl | (simp; done) | (simp [*]; done)), H', ⟨by have := HK1.out; have := HJ7.out; have := HJ13.out; omega⟩, ⟨by (with_reducible repeat (first | apply Kd.R_alloc | apply Kd.R_drewN | apply Kd.R_drew)); exact Kd.R_mono HO116.out (fun _ hk => trivial)⟩, ⟨by (with_reducible repeat (first | apply Kd.R_alloc | apply Kd.R_drewN | apply Kd.R_drew)); exact HO_11.out⟩, ⟨by repeat (first | (with_reducible first | exact HB.out | apply below_alloc | apply pw_below_drewN | apply below_drew1 | refine below_set ?_ GE110.out) | exact HB.out)⟩⟩
             ·rw [if_neg c26] at H
              exact absurd H (by simp)
            ·rw [if_neg c25] at H
             have c25b0 : (t109 == 0) = false := beq_eq_false_iff_ne.mpr c25
             have c25b1 : (t109 != 0) = true := bne_iff_ne.mpr c25
             simp only [Option.some.injEq, Prod.mk.injEq] at H
             obtain ⟨rfl, rfl, rfl⟩ := H
             go_wp2
             go_ret3
             exact ⟨_, by first | rfl | (simp [errW_none, errW_some] <;> rfl) | (simp [*, errW_none, errW_some] <;> rfl), by first | exact Kd.R_nil _ _ _ _ _ | exact Kd.N_nil _ _ _ _ _ | exact Kd.V_nil _ _ _ _ _ | exact Kd.Q_nil _ _ _ _ _ | exact Kd.S_nil _ _ _ _ _, by repeat (first | (with_reducible first | exact HB.out | apply below_alloc | apply pw_below_drewN | apply below_drew1 | refine below_set ?_ GE110.out) | exact HB.out)⟩
     ·rw [if_neg c7] at H
      exact absurd H (by simp)
    ·rw [if_neg c6] at H
     exact absurd H (by simp)
   ·rw [if_neg c5] at H
    have c5b0 : decide (x13_1 < (t101.length : Int)) = false := decide_eq_false c5
    clear c5
    simp only [Option.some.injEq, Prod.mk.injEq] at H
    obtain ⟨rfl, rfl, rfl⟩ := H
    go_wp2
    go_ret3
    exact ⟨_, by first | rfl | (simp [errW_none, errW_some] <;> rfl) | (simp [*, errW_none, errW_some] <;> rfl), by (with_reducible repeat (first | apply Kd.R_alloc | apply Kd.R_drewN | apply Kd.R_drew)); exact HO_5.out, by repeat (first | (with_reducible first | exact HB.out | apply below_alloc | apply pw_below_drewN | apply below_drew1) | exact HB.out)⟩
end Go.Proofs.YtioehkeocddniaaDoor.PA
namespace Go.Proofs.YtioehkeocddniaaDoor.PA
open Go.RowKit Go.Proofs.YtioehkeocddniaaDoorW.PrintWords Go.Proofs.YtioehkeocddniaaDoorW.PrintLast Go.Proofs.YtioehkeocddniaaDoorW.PrintMore
attribute [local go_sem] max2_int min2_int max_two min_two max_three min_three max_four min_four
set_option linter.unusedVariables false
set_option linter.unusedSimpArgs false
def remoralaw15_awake.f : Option Bool := some true
set_option maxHeartbeats 8000000 in
set_option maxRecDepth 100000 in
theorem remoralaw15_awake.calls (r : Bool) (w : World) (h : remoralaw15_awake.f = some r) : Calls Tryd.prog 10 #[] w fun e w' => e = .returned (.bool r) ∧ Below w.heap.size w w' := by
 obtain rfl := Option.some.inj h
 clear h
 have hu24 := Tryd.underlying24
 have HB := Aside0.mk (Below.refl w.heap.size w)
 obtain ⟨k, hk⟩ : ∃ k, k = 100 := ⟨_, rfl⟩
 obtain ⟨t101, t102, t103, t104, t107, t108, t109, t110, t113, A1, A2, A3, A9, A11, A32, A34, A65, A67, hlen⟩ : ∃ (t101 : Int) (t102 : ByteArray) (t103 t104 : Bool) (t107 : Int) (t108 : ByteArray) (t109 t110 : Bool) (t113 : List S24),
   Aside0 (rules_Parse.f (⟨#[45, 32, 42, 46, 111]⟩ : ByteArray) = some (t101, t102, t103, t104, 0)) ∧ Aside0 (rules_Parse.f (⟨#[45, 32, 47, 97, 47]⟩ : ByteArray) = some (t107, t108, t109, t110, 0)) ∧ Aside0 (rules_Lines.f k (⟨#[80, 32, 107, 101, 101, 112, 10, 10, 35, 32, 115, 111, 10, 45, 32, 42, 10]⟩ : ByteArray) = some (t113, 0, 0)) ∧
   Aside0 (rules_Hidden.f k [(⟨t101, t102, t103, t104⟩ : S24)] (⟨#[97, 47, 120, 46, 111]⟩ : ByteArray) false = some true) ∧ Aside0 (rules_Hidden.f k [(⟨t101, t102, t103, t104⟩ : S24)] (⟨#[120, 46, 111, 111]⟩ : ByteArray) false = some false) ∧
   Aside0 (rules_Hidden.f k [(⟨t107, t108, t109, t110⟩ : S24)] (⟨#[97, 47, 120]⟩ : ByteArray) false = some true) ∧ Aside0 (rules_Hidden.f k [(⟨t107, t108, t109, t110⟩ : S24)] (⟨#[98, 47, 97]⟩ : ByteArray) true = some false) ∧
   Aside0 (rules_Safe.f k t113 (⟨#[107, 101, 101, 112]⟩ : ByteArray) false = some true) ∧ Aside0 (rules_Hidden.f k t113 (⟨#[107, 101, 101, 112]⟩ : ByteArray) false = some true) ∧ (t113.length : Int) = 2 := by
  subst hk
  exact ⟨2, (⟨#[42, 46, 111]⟩ : ByteArray), false, false, 2, (⟨#[97]⟩ : ByteArray), true, true, [⟨3, (⟨#[107, 101, 101, 112]⟩ : ByteArray), false, false⟩, ⟨2, (⟨#[42]⟩ : ByteArray), false, false⟩], ⟨by kernel_rfl⟩, ⟨by kernel_rfl⟩, ⟨by kernel_rfl⟩, ⟨by kernel_rfl⟩, ⟨by kernel_rfl⟩, ⟨by kernel_rfl⟩, ⟨by kernel_rfl⟩, ⟨by kernel_rfl⟩, ⟨by kernel_rfl⟩, rfl⟩
 clear hk
 have c8b0 : ((t113.length : Int) == 2) = true := beq_iff_eq.mpr hlen
 have c8b1 : ((t113.length : Int) != 2) = false := bne_eq_false_iff_eq.mpr hlen
 clear hlen
 obtain ⟨y118, hy118⟩ : ∃ y_ : List (S24), y_ = (([(⟨t101, t102, t103, t104⟩ : S24)] : List (S24))) := ⟨_, rfl⟩
 obtain ⟨y122, hy122⟩ : ∃ y_ : List (S24), y_ = (([(⟨t101, t102, t103, t104⟩ : S24)] : List (S24))) := ⟨_, rfl⟩
 obtain ⟨y126, hy126⟩ : ∃ y_ : List (S24), y_ = (([(⟨t107, t108, t109, t110⟩ : S24)] : List (S24))) := ⟨_, rfl⟩
 obtain ⟨y130, hy130⟩ : ∃ y_ : List (S24), y_ = (([(⟨t107, t108, t109, t110⟩ : S24)] : List (S24))) := ⟨_, rfl⟩
 rw [← hy118] at A9
 rw [← hy122] at A11
 rw [← hy126] at A32
 rw [← hy130] at A34
 have Ny118 := Aside0.mk hy118
 have Ny122 := Aside0.mk hy122
 have Ny126 := Aside0.mk hy126
 have Ny130 := Aside0.mk hy130
 clear hy118 hy122 hy126 hy130
 go_enter Tryd.func10, Tryd.ntmps10
 go_wp2_with (first | ((with_reducible refine gate_callee (f := 11) rfl ?_); refine goesL_ (some 9) rfl rfl Tryd.func11 (by kernel_rfl) rfl #[.string (⟨#[45, 32, 42, 46, 111]⟩ : ByteArray)] rfl (by (try simp only [List.map_toArray, List.map_cons, List.map_nil]); first | done | rfl | (simp only [List.length_drop, List.length_take]; rfl)) ?_; (with_reducible refine (rules_Parse.calls (⟨#[45, 32, 42, 46, 111]⟩ : ByteArray) t101 t102 t103 t104 0 _ A1.out).mono ?_); rintro e w68 ⟨rfl, hb⟩; refine ⟨_, rfl, ?_⟩; have n0_ := Aside0.mk (below_step (by repeat (first | (with_reducible first | exact HB.out | apply below_alloc | apply pw_below_drewN | apply below_drew1) | exact HB.out)) hb); clear HB; have HB := n0_; clear n0_; (try clear hb); (try clear hb2); (try clear hk); (try clear hi)) | ((with_reducible refine gate_dst (N := 1) rfl ?_); (try (refine gate_guard (by rfl) ?_; dsimp only)); refine box_event ?hg (N := 1) ?hd (cs := #[.int .i64 0, .string (⟨#[]⟩ : ByteArray), .bool false, .bool false]) (t := 24) ?hr ?_; (case hd => rfl); (case hg => rfl); (case hr => first | (go_simp; done) | (go_simp; rfl)); intro gb106 hg w69 hbox hb; have n0_ := Aside0.mk (below_step (by repeat (first | (with_reducible first | exact HB.out | apply below_alloc | apply pw_below_drewN | apply below_drew1) | exact HB.out)) hb); have n1_ := Aside0.mk (hbox); have n2_ := Aside0.mk ((by rw [hg]; exact (below_size (by repeat (first | (with_reducible first | exact HB.out | apply below_alloc | apply pw_below_drewN | apply below_drew1) | exact HB.out))) : w.heap.size ≤ gb106)); have n3_ := Aside0.mk ((by rw [hg]; exact (below_size (by repeat (first | (with_reducible first | exact HB.out | apply below_alloc | apply pw_below_drewN | apply below_drew1) | exact HB.out))) : w.heap.size ≤ gb106)); clear HB; have HB := n0_; have BK106 := n1_; have GW106 := n2_; have GE106 := n3_; clear n0_ n1_ n2_ n3_; clear hb hbox hg; have hcz70_0 : w69.cell? ⟨gb106, 0, none⟩ = some (.int .i64 0) := (blk_cell BK106.out 0).trans rfl; have hcz70_1 : w69.cell? ⟨gb106, 1, none⟩ = some (.string (⟨#[]⟩ : ByteArray)) := (blk_cell BK106.out 1).trans rfl; have hcz70_2 : w69.cell? ⟨gb106, 2, none⟩ = some (.bool false) := (blk_cell BK106.out 2).trans rfl; have hcz70_3 : w69.cell? ⟨gb106, 3, none⟩ = some (.bool false) := (blk_cell BK106.out 3).trans rfl; have hfz70_0 := blk_frozen BK106.out 0; have hfz70_1 := blk_frozen BK106.out 1; have hfz70_2 := blk_frozen BK106.out 2; have hfz70_3 := blk_frozen BK106.out 3) | ((with_reducible refine gate_callee (f := 11) rfl ?_); refine goesL_ (some 13) rfl rfl Tryd.func11 (by kernel_rfl) rfl #[.string (⟨#[45, 32, 47, 97, 47]⟩ : ByteArray)] rfl (by (try simp only [List.map_toArray, List.map_cons, List.map_nil]); first | done | rfl | (simp only [List.length_drop, List.length_take]; rfl)) ?_; (with_reducible refine (rules_Parse.calls (⟨#[45, 32, 47, 97, 47]⟩ : ByteArray) t107 t108 t109 t110 0 _ A2.out).mono ?_); rintro e w71 ⟨rfl, hb⟩; refine ⟨_, rfl, ?_⟩; have n0_ := Aside0.mk (blk_below (g := gb106) (o := .cells #[.int .i64 t101, .string t102, .bool t103, .bool t104] 24 (0, 0)) (by (with_reducible repeat (first | refine blk_drewN ?_ _ | refine blk_drew ?_ | refine blk_alloc ?_ _)); refine blk_put (cs := #[.int .i64 t101, .string t102, .bool t103, .bool false]) ?_ 3 _ rfl; (with_reducible repeat (first | refine blk_drewN ?_ _ | refine blk_drew ?_ | refine blk_alloc ?_ _)); refine blk_put (cs := #[.int .i64 t101, .string t102, .bool false, .bool false]) ?_ 2 _ rfl; (with_reducible repeat (first | refine blk_drewN ?_ _ | refine blk_drew ?_ | refine blk_alloc ?_ _)); refine blk_put (cs := #[.int .i64 t101, .string (⟨#[]⟩ : ByteArray), .bool false, .bool false]) ?_ 1 _ rfl; (with_reducible repeat (first | refine blk_drewN ?_ _ | refine blk_drew ?_ | refine blk_alloc ?_ _)); refine blk_put (cs := #[.int .i64 0, .string (⟨#[]⟩ : ByteArray), .bool false, .bool false]) ?_ 0 _ rfl; (with_reducible repeat (first | refine blk_drewN ?_ _ | refine blk_drew ?_ | refine blk_alloc ?_ _)); exact BK106.out) hb); have n1_ := Aside0.mk (below_step (by repeat (first | (with_reducible first | exact HB.out | apply below_alloc | apply pw_below_drewN | apply below_drew1 | refine below_set ?_ GE106.out) | exact HB.out)) hb); clear BK106; clear HB; have BK106 := n0_; have HB := n1_; clear n0_ n1_; (try clear hb); (try clear hb2); (try clear hk); (try clear hi)) | ((with_reducible refine gate_dst (N := 3) rfl ?_); (try (refine gate_guard (by rfl) ?_; dsimp only)); refine box_event ?hg (N := 3) ?hd (cs := #[.int .i64 0, .string (⟨#[]⟩ : ByteArray), .bool false, .bool false]) (t := 24) ?hr ?_; (case hd => rfl); (case hg => rfl); (case hr => first | (go_simp; done) | (go_simp; rfl)); intro gb112 hg w72 hbox hb; have n0_ := Aside0.mk (blk_below (g := gb106) (o := .cells #[.int .i64 t101, .string t102, .bool t103, .bool t104] 24 (0, 0)) (by (with_reducible repeat (first | refine blk_drewN ?_ _ | refine blk_drew ?_ | refine blk_alloc ?_ _)); exact BK106.out) hb); have n1_ := Aside0.mk (below_step (by repeat (first | (with_reducible first | exact HB.out | apply below_alloc | apply pw_below_drewN | apply below_drew1 | refine below_set ?_ GE106.out) | exact HB.out)) hb); have n2_ := Aside0.mk (hbox); have n3_ := Aside0.mk ((by rw [hg]; exact (below_size (by repeat (first | (with_reducible first | exact HB.out | apply below_alloc | apply pw_below_drewN | apply below_drew1 | refine below_set ?_ GE106.out) | exact HB.out))) : w.heap.size ≤ gb112)); have n4_ := Aside0.mk ((by rw [hg]; exact (below_size (by repeat (first | (with_reducible first | exact HB.out | apply below_alloc | apply pw_below_drewN | apply below_drew1 | refine below_set ?_ GE106.out) | exact HB.out))) : w.heap.size ≤ gb112)); have n5_ := Aside0.mk ((by rw [hg]; exact Nat.ne_of_lt (blk_lt (g := gb106) (o := .cells #[.int .i64 t101, .string t102, .bool t103, .bool t104] 24 (0, 0)) (by (with_reducible repeat (first | refine blk_drewN ?_ _ | refine blk_drew ?_ | refine blk_alloc ?_ _)); exact BK106.out)) : gb106 ≠ gb112)); have n6_ := Aside0.mk ((by rw [hg]; exact Nat.ne_of_gt (blk_lt (g := gb106) (o := .cells #[.int .i64 t101, .string t102, .bool t103, .bool t104] 24 (0, 0)) (by (with_reducible repeat (first | refine blk_drewN ?_ _ | refine blk_drew ?_ | refine blk_alloc ?_ _)); exact BK106.out)) : gb112 ≠ gb106)); clear BK106; clear HB; have BK106 := n0_; have HB := n1_; have BK112 := n2_; have GW112 := n3_; have GE112 := n4_; have NB106_112 := n5_; have NB112_106 := n6_; clear n0_ n1_ n2_ n3_ n4_ n5_ n6_; clear hb hbox hg; have hnb73 := NB112_106.out; have hnc73 := NB106_112.out; have hcz74_0 : w72.cell? ⟨gb112, 0, none⟩ = some (.int .i64 0) := (blk_cell BK112.out 0).trans rfl; have hcz74_1 : w72.cell? ⟨gb112, 1, none⟩ = some (.string (⟨#[]⟩ : ByteArray)) := (blk_cell BK112.out 1).trans rfl; have hcz74_2 : w72.cell? ⟨gb112, 2, none⟩ = some (.bool false) := (blk_cell BK112.out 2).trans rfl; have hcz74_3 : w72.cell? ⟨gb112, 3, none⟩ = some (.bool false) := (blk_cell BK112.out 3).trans rfl; have hfz74_0 := blk_frozen BK112.out 0; have hfz74_1 := blk_frozen BK112.out 1; have hfz74_2 := blk_frozen BK112.out 2; have hfz74_3 := blk_frozen BK112.out 3) | ((with_reducible refine gate_callee (f := 13) rfl ?_); refine goesL_ (some 17) rfl rfl Tryd.func13 (by kernel_rfl) rfl #[.string (⟨#[80, 32, 107, 101, 101, 112, 10, 10, 35, 32, 115, 111, 10, 45, 32, 42, 10]⟩ : ByteArray)] rfl (by (try simp only [List.map_toArray, List.map_cons, List.map_nil]); first | done | rfl | (simp only [List.length_drop, List.length_take]; rfl)) ?_; (with_reducible refine (rules_Lines.calls k (⟨#[80, 32, 107, 101, 101, 112, 10, 10, 35, 32, 115, 111, 10, 45, 32, 42, 10]⟩ : ByteArray) t113 0 0 _ A3.out).mono ?_); rintro e w75 ⟨v116, rfl, ho0, hb⟩; refine ⟨_, rfl, ?_⟩; have n0_ := Aside0.mk (Kd.R_lower (Kd.R_newB (Kd.R_newB ho0 (g := gb106) (o := .cells #[.int .i64 t101, .string t102, .bool t103, .bool t104] 24 (0, 0)) (by (with_reducible repeat (first | refine blk_drewN ?_ _ | refine blk_drew ?_ | refine blk_alloc ?_ _)); refine blk_far ?_ NB106_112.out _; (with_reducible repeat (first | refine blk_drewN ?_ _ | refine blk_drew ?_ | refine blk_alloc ?_ _)); refine blk_far ?_ NB106_112.out _; (with_reducible repeat (first | refine blk_drewN ?_ _ | refine blk_drew ?_ | refine blk_alloc ?_ _)); refine blk_far ?_ NB106_112.out _; (with_reducible repeat (first | refine blk_drewN ?_ _ | refine blk_drew ?_ | refine blk_alloc ?_ _)); refine blk_far ?_ NB106_112.out _; (with_reducible repeat (first | refine blk_drewN ?_ _ | refine blk_drew ?_ | refine blk_alloc ?_ _)); exact BK106.out)) (g := gb112) (o := .cells #[.int .i64 t107, .string t108, .bool t109, .bool t110] 24 (0, 0)) (by (with_reducible repeat (first | refine blk_drewN ?_ _ | refine blk_drew ?_ | refine blk_alloc ?_ _)); refine blk_put (cs := #[.int .i64 t107, .string t108, .bool t109, .bool false]) ?_ 3 _ rfl; (with_reducible repeat (first | refine blk_drewN ?_ _ | refine blk_drew ?_ | refine blk_alloc ?_ _)); refine blk_put (cs := #[.int .i64 t107, .string t108, .bool false, .bool false]) ?_ 2 _ rfl; (with_reducible repeat (first | refine blk_drewN ?_ _ | refine blk_drew ?_ | refine blk_alloc ?_ _)); refine blk_put (cs := #[.int .i64 t107, .string (⟨#[]⟩ : ByteArray), .bool false, .bool false]) ?_ 1 _ rfl; (with_reducible repeat (first | refine blk_drewN ?_ _ | refine blk_drew ?_ | refine blk_alloc ?_ _)); refine blk_put (cs := #[.int .i64 0, .string (⟨#[]⟩ : ByteArray), .bool false, .bool false]) ?_ 0 _ rfl; (with_reducible repeat (first | refine blk_drewN ?_ _ | refine blk_drew ?_ | refine blk_alloc ?_ _)); exact BK112.out)) (below_size (by repeat (first | (with_reducible first | exact HB.out | apply below_alloc | apply pw_below_drewN | apply below_drew1 | refine below_set ?_ GE106.out | refine below_set ?_ GE112.out) | exact HB.out)))); have n1_ := Aside0.mk (blk_below (g := gb106) (o := .cells #[.int .i64 t101, .string t102, .bool t103, .bool t104] 24 (0, 0)) (by (with_reducible repeat (first | refine blk_drewN ?_ _ | refine blk_drew ?_ | refine blk_alloc ?_ _)); refine blk_far ?_ NB106_112.out _; (with_reducible repeat (first | refine blk_drewN ?_ _ | refine blk_drew ?_ | refine blk_alloc ?_ _)); refine blk_far ?_ NB106_112.out _; (with_reducible repeat (first | refine blk_drewN ?_ _ | refine blk_drew ?_ | refine blk_alloc ?_ _)); refine blk_far ?_ NB106_112.out _; (with_reducible repeat (first | refine blk_drewN ?_ _ | refine blk_drew ?_ | refine blk_alloc ?_ _)); refine blk_far ?_ NB106_112.out _; (with_reducible repeat (first | refine blk_drewN ?_ _ | refine blk_drew ?_ | refine blk_alloc ?_ _)); exact BK106.out) hb); have n2_ := Aside0.mk (blk_below (g := gb112) (o := .cells #[.int .i64 t107, .string t108, .bool t109, .bool t110] 24 (0, 0)) (by (with_reducible repeat (first | refine blk_drewN ?_ _ | refine blk_drew ?_ | refine blk_alloc ?_ _)); refine blk_put (cs := #[.int .i64 t107, .string t108, .bool t109, .bool false]) ?_ 3 _ rfl; (with_reducible repeat (first | refine blk_drewN ?_ _ | refine blk_drew ?_ | refine blk_alloc ?_ _)); refine blk_put (cs := #[.int .i64 t107, .string t108, .bool false, .bool false]) ?_ 2 _ rfl; (with_reducible repeat (first | refine blk_drewN ?_ _ | refine blk_drew ?_ | refine blk_alloc ?_ _)); refine blk_put (cs := #[.int .i64 t107, .string (⟨#[]⟩ : ByteArray), .bool false, .bool false]) ?_ 1 _ rfl; (with_reducible repeat (first | refine blk_drewN ?_ _ | refine blk_drew ?_ | refine blk_alloc ?_ _)); refine blk_put (cs := #[.int .i64 0, .string (⟨#[]⟩ : ByteArray), .bool false, .bool false]) ?_ 0 _ rfl; (with_reducible repeat (first | refine blk_drewN ?_ _ | refine blk_drew ?_ | refine blk_alloc ?_ _)); exact BK112.out) hb); have n3_ := Aside0.mk (below_step (by repeat (first | (with_reducible first | exact HB.out | apply below_alloc | apply pw_below_drewN | apply below_drew1 | refine below_set ?_ GE106.out | refine below_set ?_ GE112.out) | exact HB.out)) hb); clear BK106; clear BK112; clear HB; have HO117 := n0_; have BK106 := n1_; have BK112 := n2_; have HB := n3_; clear n0_ n1_ n2_ n3_; (try clear hb); (try clear hb2); (try clear hk); (try clear hi); (try clear ho0); obtain ⟨Ao76, co76, eo76⟩ := Kd.R_slice HO117.out; subst eo76; have hcz77_0 : w75.cell? ⟨gb106, 0, none⟩ = some (.int .i64 t101) := (blk_cell BK106.out 0).trans rfl; have hcz77_1 : w75.cell? ⟨gb106, 1, none⟩ = some (.string t102) := (blk_cell BK106.out 1).trans rfl; have hcz77_2 : w75.cell? ⟨gb106, 2, none⟩ = some (.bool t103) := (blk_cell BK106.out 2).trans rfl; have hcz77_3 : w75.cell? ⟨gb106, 3, none⟩ = some (.bool t104) := (blk_cell BK106.out 3).trans rfl; have hfz77_0 := blk_frozen BK106.out 0; have hfz77_1 := blk_frozen BK106.out 1; have hfz77_2 := blk_frozen BK106.out 2; have hfz77_3 := blk_frozen BK106.out 3) | ((with_reducible refine gate_dst (N := 42) rfl ?_); (try (refine gate_guard (by rfl) ?_; dsimp only)); refine Kd.R_lit k24 _ 24 ?hg (N := 42) ?hd (xs := ([(⟨t101, t102, t103, t104⟩ : S24)] : List (S24))) (inner := [.int .i64 t101, .string t102, .bool t103, .bool t104]) (ok := fun _ => True) (okp := fun _ => True) ?hr ?hp (fun _ hk => hk) trivial (Below.refl _ _) (Nat.le_refl _) (by simp) ?_; (case hd => rfl); (case hg => rfl); (case hr => first | (go_simp; done) | (go_simp; rfl)); (case hp => exact (Reps.c4 (show Kd.M k24 _ _ _ (⟨t101, t102, t103, t104⟩ : S24) [.int .i64 t101, .string t102, .bool t103, .bool t104] from (k24_mkM _ _ _ (⟨t101, t102, t103, t104⟩ : S24) )) (Reps.none _ _))); intro v119 w78 ho79 hb hg_ hnew_; clear hg_ hnew_; (first | rw [← Ny118.out] at ho79 | (simp only [Int.reduceToNat] at ho79; rw [← Ny118.out] at ho79)); have n0_ := Aside0.mk (Kd.R_elder' (by (with_reducible repeat (first | apply Kd.R_alloc | apply Kd.R_drewN | apply Kd.R_drew)); exact HO117.out) (Kd.R_base ho79) hb); have n1_ := Aside0.mk (Kd.R_lower (Kd.R_newB (Kd.R_newB (Kd.R_new' ho79 (Kd.R_lt (by (with_reducible repeat (first | apply Kd.R_alloc | apply Kd.R_drewN | apply Kd.R_drew)); exact HO117.out))) (g := gb106) (o := .cells #[.int .i64 t101, .string t102, .bool t103, .bool t104] 24 (0, 0)) (by (with_reducible repeat (first | refine blk_drewN ?_ _ | refine blk_drew ?_ | refine blk_alloc ?_ _)); exact BK106.out)) (g := gb112) (o := .cells #[.int .i64 t107, .string t108, .bool t109, .bool t110] 24 (0, 0)) (by (with_reducible repeat (first | refine blk_drewN ?_ _ | refine blk_drew ?_ | refine blk_alloc ?_ _)); exact BK112.out)) (below_size (by repeat (first | (with_reducible first | exact HB.out | apply below_alloc | apply pw_below_drewN | apply below_drew1 | refine below_set ?_ GE106.out | refine below_set ?_ GE112.out) | exact HB.out)))); have n2_ := Aside0.mk (blk_below (g := gb106) (o := .cells #[.int .i64 t101, .string t102, .bool t103, .bool t104] 24 (0, 0)) (by (with_reducible repeat (first | refine blk_drewN ?_ _ | refine blk_drew ?_ | refine blk_alloc ?_ _)); exact BK106.out) hb); have n3_ := Aside0.mk (blk_below (g := gb112) (o := .cells #[.int .i64 t107, .string t108, .bool t109, .bool t110] 24 (0, 0)) (by (with_reducible repeat (first | refine blk_drewN ?_ _ | refine blk_drew ?_ | refine blk_alloc ?_ _)); exact BK112.out) hb); have n4_ := Aside0.mk (below_step (by repeat (first | (with_reducible first | exact HB.out | apply below_alloc | apply pw_below_drewN | apply below_drew1 | refine below_set ?_ GE106.out | refine below_set ?_ GE112.out) | exact HB.out)) hb); clear HO117; clear BK106; clear BK112; clear HB; have HO117 := n0_; have HO120 := n1_; have BK106 := n2_; have BK112 := n3_; have HB := n4_; clear n0_ n1_ n2_ n3_ n4_; clear hb ho79; obtain ⟨Ao80, co80, eo80⟩ := Kd.R_slice HO120.out; subst eo80) | (go_at_call 21; (with_reducible refine (rules_Hidden.calls k _ _ y118 (⟨#[97, 47, 120, 46, 111]⟩ : ByteArray) false true _ ?side1 ?side2 A9.out).mono ?_); (case side1 => repeat (first | exact (Kd.R_reads' HO120.out).2.2 | (with_reducible refine Kd.C_alloc ?_ _) | (with_reducible refine Kd.C_drewN ?_ _) | (with_reducible refine Kd.C_drew ?_))); (case side2 => exact (Kd.R_reads' HO120.out).2.1); rintro e w81 ⟨rfl, hb⟩; have n0_ := Aside0.mk (Kd.R_below (by (with_reducible repeat (first | apply Kd.R_alloc | apply Kd.R_drewN | apply Kd.R_drew)); exact HO117.out) hb); have n1_ := Aside0.mk (Kd.R_below (by (with_reducible repeat (first | apply Kd.R_alloc | apply Kd.R_drewN | apply Kd.R_drew)); exact HO120.out) hb); have n2_ := Aside0.mk (blk_below (g := gb106) (o := .cells #[.int .i64 t101, .string t102, .bool t103, .bool t104] 24 (0, 0)) (by (with_reducible repeat (first | refine blk_drewN ?_ _ | refine blk_drew ?_ | refine blk_alloc ?_ _)); exact BK106.out) hb); have n3_ := Aside0.mk (blk_below (g := gb112) (o := .cells #[.int .i64 t107, .string t108, .bool t109, .bool t110] 24 (0, 0)) (by (with_reducible repeat (first | refine blk_drewN ?_ _ | refine blk_drew ?_ | refine blk_alloc ?_ _)); exact BK112.out) hb); have n4_ := Aside0.mk (below_step (by repeat (first | (with_reducible first | exact HB.out | apply below_alloc | apply pw_below_drewN | apply below_drew1 | refine below_set ?_ GE106.out | refine below_set ?_ GE112.out) | exact HB.out)) hb); clear HO117; clear HO120; clear BK106; clear BK112; clear HB; have HO117 := n0_; have HO120 := n1_; have BK106 := n2_; have BK112 := n3_; have HB := n4_; clear n0_ n1_ n2_ n3_ n4_; (try clear hb); (try clear hb2); (try clear hk); (try clear hi); have hcz82_0 : w81.cell? ⟨gb106, 0, none⟩ = some (.int .i64 t101) := (blk_cell BK106.out 0).trans rfl; have hcz82_1 : w81.cell? ⟨gb106, 1, none⟩ = some (.string t102) := (blk_cell BK106.out 1).trans rfl; have hcz82_2 : w81.cell? ⟨gb106, 2, none⟩ = some (.bool t103) := (blk_cell BK106.out 2).trans rfl; have hcz82_3 : w81.cell? ⟨gb106, 3, none⟩ = some (.bool t104) := (blk_cell BK106.out 3).trans rfl; have hfz82_0 := blk_frozen BK106.out 0; have hfz82_1 := blk_frozen BK106.out 1; have hfz82_2 := blk_frozen BK106.out 2; have hfz82_3 := blk_frozen BK106.out 3) | ((with_reducible refine gate_dst (N := 47) rfl ?_); (try (refine gate_guard (by rfl) ?_; dsimp only)); refine Kd.R_lit k24 _ 24 ?hg (N := 47) ?hd (xs := ([(⟨t101, t102, t103, t104⟩ : S24)] : List (S24))) (inner := [.int .i64 t101, .string t102, .bool t103, .bool t104]) (ok := fun _ => True) (okp := fun _ => True) ?hr ?hp (fun _ hk => hk) trivial (Below.refl _ _) (Nat.le_refl _) (by simp) ?_; (case hd => rfl); (case hg => rfl); (case hr => first | (go_simp; done) | (go_simp; rfl)); (case hp => exact (Reps.c4 (show Kd.M k24 _ _ _ (⟨t101, t102, t103, t104⟩ : S24) [.int .i64 t101, .string t102, .bool t103, .bool t104] from (k24_mkM _ _ _ (⟨t101, t102, t103, t104⟩ : S24) )) (Reps.none _ _))); intro v123 w83 ho84 hb hg_ hnew_; clear hg_ hnew_; (first | rw [← Ny122.out] at ho84 | (simp only [Int.reduceToNat] at ho84; rw [← Ny122.out] at ho84)); have n0_ := Aside0.mk (Kd.R_elder' (by (with_reducible repeat (first | apply Kd.R_alloc | apply Kd.R_drewN | apply Kd.R_drew)); exact HO117.out) (Kd.R_base ho84) hb); have n1_ := Aside0.mk (Kd.R_elder' (by (with_reducible repeat (first | apply Kd.R_alloc | apply Kd.R_drewN | apply Kd.R_drew)); exact HO120.out) (Kd.R_base ho84) hb); have n2_ := Aside0.mk (Kd.R_lower (Kd.R_newB (Kd.R_newB (Kd.R_new' (Kd.R_new' ho84 (Kd.R_lt (by (with_reducible repeat (first | apply Kd.R_alloc | apply Kd.R_drewN | apply Kd.R_drew)); exact HO117.out))) (Kd.R_lt (by (with_reducible repeat (first | apply Kd.R_alloc | apply Kd.R_drewN | apply Kd.R_drew)); exact HO120.out))) (g := gb106) (o := .cells #[.int .i64 t101, .string t102, .bool t103, .bool t104] 24 (0, 0)) (by (with_reducible repeat (first | refine blk_drewN ?_ _ | refine blk_drew ?_ | refine blk_alloc ?_ _)); exact BK106.out)) (g := gb112) (o := .cells #[.int .i64 t107, .string t108, .bool t109, .bool t110] 24 (0, 0)) (by (with_reducible repeat (first | refine blk_drewN ?_ _ | refine blk_drew ?_ | refine blk_alloc ?_ _)); exact BK112.out)) (below_size (by repeat (first | (with_reducible first | exact HB.out | apply below_alloc | apply pw_below_drewN | apply below_drew1 | refine below_set ?_ GE106.out | refine below_set ?_ GE112.out) | exact HB.out)))); have n3_ := Aside0.mk (blk_below (g := gb106) (o := .cells #[.int .i64 t101, .string t102, .bool t103, .bool t104] 24 (0, 0)) (by (with_reducible repeat (first | refine blk_drewN ?_ _ | refine blk_drew ?_ | refine blk_alloc ?_ _)); exact BK106.out) hb); have n4_ := Aside0.mk (blk_below (g := gb112) (o := .cells #[.int .i64 t107, .string t108, .bool t109, .bool t110] 24 (0, 0)) (by (with_reducible repeat (first | refine blk_drewN ?_ _ | refine blk_drew ?_ | refine blk_alloc ?_ _)); exact BK112.out) hb); have n5_ := Aside0.mk (below_step (by repeat (first | (with_reducible first | exact HB.out | apply below_alloc | apply pw_below_drewN | apply below_drew1 | refine below_set ?_ GE106.out | refine below_set ?_ GE112.out) | exact HB.out)) hb); clear HO117; clear HO120; clear BK106; clear BK112; clear HB; have HO117 := n0_; have HO120 := n1_; have HO124 := n2_; have BK106 := n3_; have BK112 := n4_; have HB := n5_; clear n0_ n1_ n2_ n3_ n4_ n5_; clear hb ho84; obtain ⟨Ao85, co85, eo85⟩ := Kd.R_slice HO124.out; subst eo85) | (go_at_call 21; (with_reducible refine (rules_Hidden.calls k _ _ y122 (⟨#[120, 46, 111, 111]⟩ : ByteArray) false false _ ?side1 ?side2 A11.out).mono ?_); (case side1 => repeat (first | exact (Kd.R_reads' HO124.out).2.2 | (with_reducible refine Kd.C_alloc ?_ _) | (with_reducible refine Kd.C_drewN ?_ _) | (with_reducible refine Kd.C_drew ?_))); (case side2 => exact (Kd.R_reads' HO124.out).2.1); rintro e w86 ⟨rfl, hb⟩; have n0_ := Aside0.mk (Kd.R_below (by (with_reducible repeat (first | apply Kd.R_alloc | apply Kd.R_drewN | apply Kd.R_drew)); exact HO117.out) hb); have n1_ := Aside0.mk (Kd.R_below (by (with_reducible repeat (first | apply Kd.R_alloc | apply Kd.R_drewN | apply Kd.R_drew)); exact HO120.out) hb); have n2_ := Aside0.mk (Kd.R_below (by (with_reducible repeat (first | apply Kd.R_alloc | apply Kd.R_drewN | apply Kd.R_drew)); exact HO124.out) hb); have n3_ := Aside0.mk (blk_below (g := gb106) (o := .cells #[.int .i64 t101, .string t102, .bool t103, .bool t104] 24 (0, 0)) (by (with_reducible repeat (first | refine blk_drewN ?_ _ | refine blk_drew ?_ | refine blk_alloc ?_ _)); exact BK106.out) hb); have n4_ := Aside0.mk (blk_below (g := gb112) (o := .cells #[.int .i64 t107, .string t108, .bool t109, .bool t110] 24 (0, 0)) (by (with_reducible repeat (first | refine blk_drewN ?_ _ | refine blk_drew ?_ | refine blk_alloc ?_ _)); exact BK112.out) hb); have n5_ := Aside0.mk (below_step (by repeat (first | (with_reducible first | exact HB.out | apply below_alloc | apply pw_below_drewN | apply below_drew1 | refine below_set ?_ GE106.out | refine below_set ?_ GE112.out) | exact HB.out)) hb); clear HO117; clear HO120; clear HO124; clear BK106; clear BK112; clear HB; have HO117 := n0_; have HO120 := n1_; have HO124 := n2_; have BK106 := n3_; have BK112 := n4_; have HB := n5_; clear n0_ n1_ n2_ n3_ n4_ n5_; (try clear hb); (try clear hb2); (try clear hk); (try clear hi); have hcz87_0 : w86.cell? ⟨gb112, 0, none⟩ = some (.int .i64 t107) := (blk_cell BK112.out 0).trans rfl; have hcz87_1 : w86.cell? ⟨gb112, 1, none⟩ = some (.string t108) := (blk_cell BK112.out 1).trans rfl; have hcz87_2 : w86.cell? ⟨gb112, 2, none⟩ = some (.bool t109) := (blk_cell BK112.out 2).trans rfl; have hcz87_3 : w86.cell? ⟨gb112, 3, none⟩ = some (.bool t110) := (blk_cell BK112.out 3).trans rfl; have hfz87_0 := blk_frozen BK112.out 0; have hfz87_1 := blk_frozen BK112.out 1; have hfz87_2 := blk_frozen BK112.out 2; have hfz87_3 := blk_frozen BK112.out 3) | ((with_reducible refine gate_dst (N := 53) rfl ?_); (try (refine gate_guard (by rfl) ?_; dsimp only)); refine Kd.R_lit k24 _ 24 ?hg (N := 53) ?hd (xs := ([(⟨t107, t108, t109, t110⟩ : S24)] : List (S24))) (inner := [.int .i64 t107, .string t108, .bool t109, .bool t110]) (ok := fun _ => True) (okp := fun _ => True) ?hr ?hp (fun _ hk => hk) trivial (Below.refl _ _) (Nat.le_refl _) (by simp) ?_; (case hd => rfl); (case hg => rfl); (case hr => first | (go_simp; done) | (go_simp; rfl)); (case hp => exact (Reps.c4 (show Kd.M k24 _ _ _ (⟨t107, t108, t109, t110⟩ : S24) [.int .i64 t107, .string t108, .bool t109, .bool t110] from (k24_mkM _ _ _ (⟨t107, t108, t109, t110⟩ : S24) )) (Reps.none _ _))); intro v127 w88 ho89 hb hg_ hnew_; clear hg_ hnew_; (first | rw [← Ny126.out] at ho89 | (simp only [Int.reduceToNat] at ho89; rw [← Ny126.out] at ho89)); have n0_ := Aside0.mk (Kd.R_elder' (by (with_reducible repeat (first | apply Kd.R_alloc | apply Kd.R_drewN | apply Kd.R_drew)); exact HO117.out) (Kd.R_base ho89) hb); have n1_ := Aside0.mk (Kd.R_elder' (by (with_reducible repeat (first | apply Kd.R_alloc | apply Kd.R_drewN | apply Kd.R_drew)); exact HO120.out) (Kd.R_base ho89) hb); have n2_ := Aside0.mk (Kd.R_elder' (by (with_reducible repeat (first | apply Kd.R_alloc | apply Kd.R_drewN | apply Kd.R_drew)); exact HO124.out) (Kd.R_base ho89) hb); have n3_ := Aside0.mk (Kd.R_lower (Kd.R_newB (Kd.R_newB (Kd.R_new' (Kd.R_new' (Kd.R_new' ho89 (Kd.R_lt (by (with_reducible repeat (first | apply Kd.R_alloc | apply Kd.R_drewN | apply Kd.R_drew)); exact HO117.out))) (Kd.R_lt (by (with_reducible repeat (first | apply Kd.R_alloc | apply Kd.R_drewN | apply Kd.R_drew)); exact HO120.out))) (Kd.R_lt (by (with_reducible repeat (first | apply Kd.R_alloc | apply Kd.R_drewN | apply Kd.R_drew)); exact HO124.out))) (g := gb106) (o := .cells #[.int .i64 t101, .string t102, .bool t103, .bool t104] 24 (0, 0)) (by (with_reducible repeat (first | refine blk_drewN ?_ _ | refine blk_drew ?_ | refine blk_alloc ?_ _)); exact BK106.out)) (g := gb112) (o := .cells #[.int .i64 t107, .string t108, .bool t109, .bool t110] 24 (0, 0)) (by (with_reducible repeat (first | refine blk_drewN ?_ _ | refine blk_drew ?_ | refine blk_alloc ?_ _)); exact BK112.out)) (below_size (by repeat (first | (with_reducible first | exact HB.out | apply below_alloc | apply pw_below_drewN | apply below_drew1 | refine below_set ?_ GE106.out | refine below_set ?_ GE112.out) | exact HB.out)))); have n4_ := Aside0.mk (blk_below (g := gb106) (o := .cells #[.int .i64 t101, .string t102, .bool t103, .bool t104] 24 (0, 0)) (by (with_reducible repeat (first | refine blk_drewN ?_ _ | refine blk_drew ?_ | refine blk_alloc ?_ _)); exact BK106.out) hb); have n5_ := Aside0.mk (blk_below (g := gb112) (o := .cells #[.int .i64 t107, .string t108, .bool t109, .bool t110] 24 (0, 0)) (by (with_reducible repeat (first | refine blk_drewN ?_ _ | refine blk_drew ?_ | refine blk_alloc ?_ _)); exact BK112.out) hb); have n6_ := Aside0.mk (below_step (by repeat (first | (with_reducible first | exact HB.out | apply below_alloc | apply pw_below_drewN | apply below_drew1 | refine below_set ?_ GE106.out | refine below_set ?_ GE112.out) | exact HB.out)) hb); clear HO117; clear HO120; clear HO124; clear BK106; clear BK112; clear HB; have HO117 := n0_; have HO120 := n1_; have HO124 := n2_; have HO128 := n3_; have BK106 := n4_; have BK112 := n5_; have HB := n6_; clear n0_ n1_ n2_ n3_ n4_ n5_ n6_; clear hb ho89; obtain ⟨Ao90, co90, eo90⟩ := Kd.R_slice HO128.out; subst eo90) | (go_at_call 21; (with_reducible refine (rules_Hidden.calls k _ _ y126 (⟨#[97, 47, 120]⟩ : ByteArray) false true _ ?side1 ?side2 A32.out).mono ?_); (case side1 => repeat (first | exact (Kd.R_reads' HO128.out).2.2 | (with_reducible refine Kd.C_alloc ?_ _) | (with_reducible refine Kd.C_drewN ?_ _) | (with_reducible refine Kd.C_drew ?_))); (case side2 => exact (Kd.R_reads' HO128.out).2.1); rintro e w91 ⟨rfl, hb⟩; have n0_ := Aside0.mk (Kd.R_below (by (with_reducible repeat (first | apply Kd.R_alloc | apply Kd.R_drewN | apply Kd.R_drew)); exact HO117.out) hb); have n1_ := Aside0.mk (Kd.R_below (by (with_reducible repeat (first | apply Kd.R_alloc | apply Kd.R_drewN | apply Kd.R_drew)); exact HO120.out) hb); have n2_ := Aside0.mk (Kd.R_below (by (with_reducible repeat (first | apply Kd.R_alloc | apply Kd.R_drewN | apply Kd.R_drew)); exact HO124.out) hb); have n3_ := Aside0.mk (Kd.R_below (by (with_reducible repeat (first | apply Kd.R_alloc | apply Kd.R_drewN | apply Kd.R_drew)); exact HO128.out) hb); have n4_ := Aside0.mk (blk_below (g := gb106) (o := .cells #[.int .i64 t101, .string t102, .bool t103, .bool t104] 24 (0, 0)) (by (with_reducible repeat (first | refine blk_drewN ?_ _ | refine blk_drew ?_ | refine blk_alloc ?_ _)); exact BK106.out) hb); have n5_ := Aside0.mk (blk_below (g := gb112) (o := .cells #[.int .i64 t107, .string t108, .bool t109, .bool t110] 24 (0, 0)) (by (with_reducible repeat (first | refine blk_drewN ?_ _ | refine blk_drew ?_ | refine blk_alloc ?_ _)); exact BK112.out) hb); have n6_ := Aside0.mk (below_step (by repeat (first | (with_reducible first | exact HB.out | apply below_alloc | apply pw_below_drewN | apply below_drew1 | refine below_set ?_ GE106.out | refine below_set ?_ GE112.out) | exact HB.out)) hb); clear HO117; clear HO120; clear HO124; clear HO128; clear BK106; clear BK112; clear HB; have HO117 := n0_; have HO120 := n1_; have HO124 := n2_; have HO128 := n3_; have BK106 := n4_; have BK112 := n5_; have HB := n6_; clear n0_ n1_ n2_ n3_ n4_ n5_ n6_; (try clear hb); (try clear hb2); (try clear hk); (try clear hi); have hcz92_0 : w91.cell? ⟨gb112, 0, none⟩ = some (.int .i64 t107) := (blk_cell BK112.out 0).trans rfl; have hcz92_1 : w91.cell? ⟨gb112, 1, none⟩ = some (.string t108) := (blk_cell BK112.out 1).trans rfl; have hcz92_2 : w91.cell? ⟨gb112, 2, none⟩ = some (.bool t109) := (blk_cell BK112.out 2).trans rfl; have hcz92_3 : w91.cell? ⟨gb112, 3, none⟩ = some (.bool t110) := (blk_cell BK112.out 3).trans rfl; have hfz92_0 := blk_frozen BK112.out 0; have hfz92_1 := blk_frozen BK112.out 1; have hfz92_2 := blk_frozen BK112.out 2; have hfz92_3 := blk_frozen BK112.out 3) | ((with_reducible refine gate_dst (N := 58) rfl ?_); (try (refine gate_guard (by rfl) ?_; dsimp only)); refine Kd.R_lit k24 _ 24 ?hg (N := 58) ?hd (xs := ([(⟨t107, t108, t109, t110⟩ : S24)] : List (S24))) (inner := [.int .i64 t107, .string t108, .bool t109, .bool t110]) (ok := fun _ => True) (okp := fun _ => True) ?hr ?hp (fun _ hk => hk) trivial (Below.refl _ _) (Nat.le_refl _) (by simp) ?_; (case hd => rfl); (case hg => rfl); (case hr => first | (go_simp; done) | (go_simp; rfl)); (case hp => exact (Reps.c4 (show Kd.M k24 _ _ _ (⟨t107, t108, t109, t110⟩ : S24) [.int .i64 t107, .string t108, .bool t109, .bool t110] from (k24_mkM _ _ _ (⟨t107, t108, t109, t110⟩ : S24) )) (Reps.none _ _))); intro v131 w93 ho94 hb hg_ hnew_; clear hg_ hnew_; (first | rw [← Ny130.out] at ho94 | (simp only [Int.reduceToNat] at ho94; rw [← Ny130.out] at ho94)); have n0_ := Aside0.mk (Kd.R_elder' (by (with_reducible repeat (first | apply Kd.R_alloc | apply Kd.R_drewN | apply Kd.R_drew)); exact HO117.out) (Kd.R_base ho94) hb); have n1_ := Aside0.mk (Kd.R_elder' (by (with_reducible repeat (first | apply Kd.R_alloc | apply Kd.R_drewN | apply Kd.R_drew)); exact HO120.out) (Kd.R_base ho94) hb); have n2_ := Aside0.mk (Kd.R_elder' (by (with_reducible repeat (first | apply Kd.R_alloc | apply Kd.R_drewN | apply Kd.R_drew)); exact HO124.out) (Kd.R_base ho94) hb); have n3_ := Aside0.mk (Kd.R_elder' (by (with_reducible repeat (first | apply Kd.R_alloc | apply Kd.R_drewN | apply Kd.R_drew)); exact HO128.out) (Kd.R_base ho94) hb); have n4_ := Aside0.mk (Kd.R_lower (Kd.R_newB (Kd.R_newB (Kd.R_new' (Kd.R_new' (Kd.R_new' (Kd.R_new' ho94 (Kd.R_lt (by (with_reducible repeat (first | apply Kd.R_alloc | apply Kd.R_drewN | apply Kd.R_drew)); exact HO117.out))) (Kd.R_lt (by (with_reducible repeat (first | apply Kd.R_alloc | apply Kd.R_drewN | apply Kd.R_drew)); exact HO120.out))) (Kd.R_lt (by (with_reducible repeat (first | apply Kd.R_alloc | apply Kd.R_drewN | apply Kd.R_drew)); exact HO124.out))) (Kd.R_lt (by (with_reducible repeat (first | apply Kd.R_alloc | apply Kd.R_drewN | apply Kd.R_drew)); exact HO128.out))) (g := gb106) (o := .cells #[.int .i64 t101, .string t102, .bool t103, .bool t104] 24 (0, 0)) (by (with_reducible repeat (first | refine blk_drewN ?_ _ | refine blk_drew ?_ | refine blk_alloc ?_ _)); exact BK106.out)) (g := gb112) (o := .cells #[.int .i64 t107, .string t108, .bool t109, .bool t110] 24 (0, 0)) (by (with_reducible repeat (first | refine blk_drewN ?_ _ | refine blk_drew ?_ | refine blk_alloc ?_ _)); exact BK112.out)) (below_size (by repeat (first | (with_reducible first | exact HB.out | apply below_alloc | apply pw_below_drewN | apply below_drew1 | refine below_set ?_ GE106.out | refine below_set ?_ GE112.out) | exact HB.out)))); have n5_ := Aside0.mk (blk_below (g := gb106) (o := .cells #[.int .i64 t101, .string t102, .bool t103, .bool t104] 24 (0, 0)) (by (with_reducible repeat (first | refine blk_drewN ?_ _ | refine blk_drew ?_ | refine blk_alloc ?_ _)); exact BK106.out) hb); have n6_ := Aside0.mk (blk_below (g := gb112) (o := .cells #[.int .i64 t107, .string t108, .bool t109, .bool t110] 24 (0, 0)) (by (with_reducible repeat (first | refine blk_drewN ?_ _ | refine blk_drew ?_ | refine blk_alloc ?_ _)); exact BK112.out) hb); have n7_ := Aside0.mk (below_step (by repeat (first | (with_reducible first | exact HB.out | apply below_alloc | apply pw_below_drewN | apply below_drew1 | refine below_set ?_ GE106.out | refine below_set ?_ GE112.out) | exact HB.out)) hb); clear HO117; clear HO120; clear HO124; clear HO128; clear BK106; clear BK112; clear HB; have HO117 := n0_; have HO120 := n1_; have HO124 := n2_; have HO128 := n3_; have HO132 := n4_; have BK106 := n5_; have BK112 := n6_; have HB := n7_; clear n0_ n1_ n2_ n3_ n4_ n5_ n6_ n7_; clear hb ho94; obtain ⟨Ao95, co95, eo95⟩ := Kd.R_slice HO132.out; subst eo95) | (go_at_call 21; (with_reducible refine (rules_Hidden.calls k _ _ y130 (⟨#[98, 47, 97]⟩ : ByteArray) true false _ ?side1 ?side2 A34.out).mono ?_); (case side1 => repeat (first | exact (Kd.R_reads' HO132.out).2.2 | (with_reducible refine Kd.C_alloc ?_ _) | (with_reducible refine Kd.C_drewN ?_ _) | (with_reducible refine Kd.C_drew ?_))); (case side2 => exact (Kd.R_reads' HO132.out).2.1); rintro e w96 ⟨rfl, hb⟩; have n0_ := Aside0.mk (Kd.R_below (by (with_reducible repeat (first | apply Kd.R_alloc | apply Kd.R_drewN | apply Kd.R_drew)); exact HO117.out) hb); have n1_ := Aside0.mk (Kd.R_below (by (with_reducible repeat (first | apply Kd.R_alloc | apply Kd.R_drewN | apply Kd.R_drew)); exact HO120.out) hb); have n2_ := Aside0.mk (Kd.R_below (by (with_reducible repeat (first | apply Kd.R_alloc | apply Kd.R_drewN | apply Kd.R_drew)); exact HO124.out) hb); have n3_ := Aside0.mk (Kd.R_below (by (with_reducible repeat (first | apply Kd.R_alloc | apply Kd.R_drewN | apply Kd.R_drew)); exact HO128.out) hb); have n4_ := Aside0.mk (Kd.R_below (by (with_reducible repeat (first | apply Kd.R_alloc | apply Kd.R_drewN | apply Kd.R_drew)); exact HO132.out) hb); have n5_ := Aside0.mk (blk_below (g := gb106) (o := .cells #[.int .i64 t101, .string t102, .bool t103, .bool t104] 24 (0, 0)) (by (with_reducible repeat (first | refine blk_drewN ?_ _ | refine blk_drew ?_ | refine blk_alloc ?_ _)); exact BK106.out) hb); have n6_ := Aside0.mk (blk_below (g := gb112) (o := .cells #[.int .i64 t107, .string t108, .bool t109, .bool t110] 24 (0, 0)) (by (with_reducible repeat (first | refine blk_drewN ?_ _ | refine blk_drew ?_ | refine blk_alloc ?_ _)); exact BK112.out) hb); have n7_ := Aside0.mk (below_step (by repeat (first | (with_reducible first | exact HB.out | apply below_alloc | apply pw_below_drewN | apply below_drew1 | refine below_set ?_ GE106.out | refine below_set ?_ GE112.out) | exact HB.out)) hb); clear HO117; clear HO120; clear HO124; clear HO128; clear HO132; clear BK106; clear BK112; clear HB; have HO117 := n0_; have HO120 := n1_; have HO124 := n2_; have HO128 := n3_; have HO132 := n4_; have BK106 := n5_; have BK112 := n6_; have HB := n7_; clear n0_ n1_ n2_ n3_ n4_ n5_ n6_ n7_; (try clear hb); (try clear hb2); (try clear hk); (try clear hi)) | (go_at_call 23; (with_reducible refine (rules_Safe.calls k _ _ t113 (⟨#[107, 101, 101, 112]⟩ : ByteArray) false true _ ?side1 ?side2 A65.out).mono ?_); (case side1 => repeat (first | exact (Kd.R_reads' HO117.out).2.2 | (with_reducible refine Kd.C_alloc ?_ _) | (with_reducible refine Kd.C_drewN ?_ _) | (with_reducible refine Kd.C_drew ?_))); (case side2 => exact (Kd.R_reads' HO117.out).2.1); rintro e w97 ⟨rfl, hb⟩; have n0_ := Aside0.mk (Kd.R_below (by (with_reducible repeat (first | apply Kd.R_alloc | apply Kd.R_drewN | apply Kd.R_drew)); exact HO117.out) hb); have n1_ := Aside0.mk (Kd.R_below (by (with_reducible repeat (first | apply Kd.R_alloc | apply Kd.R_drewN | apply Kd.R_drew)); exact HO120.out) hb); have n2_ := Aside0.mk (Kd.R_below (by (with_reducible repeat (first | apply Kd.R_alloc | apply Kd.R_drewN | apply Kd.R_drew)); exact HO124.out) hb); have n3_ := Aside0.mk (Kd.R_below (by (with_reducible repeat (first | apply Kd.R_alloc | apply Kd.R_drewN | apply Kd.R_drew)); exact HO128.out) hb); have n4_ := Aside0.mk (Kd.R_below (by (with_reducible repeat (first | apply Kd.R_alloc | apply Kd.R_drewN | apply Kd.R_drew)); exact HO132.out) hb); have n5_ := Aside0.mk (blk_below (g := gb106) (o := .cells #[.int .i64 t101, .string t102, .bool t103, .bool t104] 24 (0, 0)) (by (with_reducible repeat (first | refine blk_drewN ?_ _ | refine blk_drew ?_ | refine blk_alloc ?_ _)); exact BK106.out) hb); have n6_ := Aside0.mk (blk_below (g := gb112) (o := .cells #[.int .i64 t107, .string t108, .bool t109, .bool t110] 24 (0, 0)) (by (with_reducible repeat (first | refine blk_drewN ?_ _ | refine blk_drew ?_ | refine blk_alloc ?_ _)); exact BK112.out) hb); have n7_ := Aside0.mk (below_step (by repeat (first | (with_reducible first | exact HB.out | apply below_alloc | apply pw_below_drewN | apply below_drew1 | refine below_set ?_ GE106.out | refine below_set ?_ GE112.out) | exact HB.out)) hb); clear HO117; clear HO120; clear HO124; clear HO128; clear HO132; clear BK106; clear BK112; clear HB; have HO117 := n0_; have HO120 := n1_; have HO124 := n2_; have HO128 := n3_; have HO132 := n4_; have BK106 := n5_; have BK112 := n6_; have HB := n7_; clear n0_ n1_ n2_ n3_ n4_ n5_ n6_ n7_; (try clear hb); (try clear hb2); (try clear hk); (try clear hi)) | (go_at_call 21; (with_reducible refine (rules_Hidden.calls k _ _ t113 (⟨#[107, 101, 101, 112]⟩ : ByteArray) false true _ ?side1 ?side2 A67.out).mono ?_); (case side1 => repeat (first | exact (Kd.R_reads' HO117.out).2.2 | (with_reducible refine Kd.C_alloc ?_ _) | (with_reducible refine Kd.C_drewN ?_ _) | (with_reducible refine Kd.C_drew ?_))); (case side2 => exact (Kd.R_reads' HO117.out).2.1); rintro e w98 ⟨rfl, hb⟩; have n0_ := Aside0.mk (Kd.R_below (by (with_reducible repeat (first | apply Kd.R_alloc | apply Kd.R_drewN | apply Kd.R_drew)); exact HO117.out) hb); have n1_ := Aside0.mk (Kd.R_below (by (with_reducible repeat (first | apply Kd.R_alloc | apply Kd.R_drewN | apply Kd.R_drew)); exact HO120.out) hb); have n2_ := Aside0.mk (Kd.R_below (by (with_reducible repeat (first | apply Kd.R_alloc | apply Kd.R_drewN | apply Kd.R_drew)); exact HO124.out) hb); have n3_ := Aside0.mk (Kd.R_below (by (with_reducible repeat (first | apply Kd.R_alloc | apply Kd.R_drewN | apply Kd.R_drew)); exact HO128.out) hb); have n4_ := Aside0.mk (Kd.R_below (by (with_reducible repeat (first | apply Kd.R_alloc | apply Kd.R_drewN | apply Kd.R_drew)); exact HO132.out) hb); have n5_ := Aside0.mk (blk_below (g := gb106) (o := .cells #[.int .i64 t101, .string t102, .bool t103, .bool t104] 24 (0, 0)) (by (with_reducible repeat (first | refine blk_drewN ?_ _ | refine blk_drew ?_ | refine blk_alloc ?_ _)); exact BK106.out) hb); have n6_ := Aside0.mk (blk_below (g := gb112) (o := .cells #[.int .i64 t107, .string t108, .bool t109, .bool t110] 24 (0, 0)) (by (with_reducible repeat (first | refine blk_drewN ?_ _ | refine blk_drew ?_ | refine blk_alloc ?_ _)); exact BK112.out) hb); have n7_ := Aside0.mk (below_step (by repeat (first | (with_reducible first | exact HB.out | apply below_alloc | apply pw_below_drewN | apply below_drew1 | refine below_set ?_ GE106.out | refine below_set ?_ GE112.out) | exact HB.out)) hb); clear HO117; clear HO120; clear HO124; clear HO128; clear HO132; clear BK106; clear BK112; clear HB; have HO117 := n0_; have HO120 := n1_; have HO124 := n2_; have HO128 := n3_; have HO132 := n4_; have BK106 := n5_; have BK112 := n6_; have HB := n7_; clear n0_ n1_ n2_ n3_ n4_ n5_ n6_ n7_; (try clear hb); (try clear hb2); (try clear hk); (try clear hi)))
 go_ret
 exact ⟨by first | rfl | (simp [errW_none, errW_some] <;> rfl) | (simp [*, errW_none, errW_some] <;> rfl), by repeat (first | (with_reducible first | exact HB.out | apply below_alloc | apply pw_below_drewN | apply below_drew1 | refine below_set ?_ GE106.out | refine below_set ?_ GE112.out) | exact HB.out)⟩
end Go.Proofs.YtioehkeocddniaaDoor.PA
namespace Go.Proofs.YtioehkeocddniaaDoor.PA
open Go.RowKit Go.Proofs.YtioehkeocddniaaDoorW.PrintWords Go.Proofs.YtioehkeocddniaaDoorW.PrintLast Go.Proofs.YtioehkeocddniaaDoorW.PrintMore
attribute [local go_sem] max2_int min2_int max_two min_two max_three min_three max_four min_four   -- for this text's walks alone
set_option linter.unusedVariables false
set_option linter.unusedSimpArgs false
mutual
def remoralaw15_RulesActs.j0 : Nat → List (S24) → ByteArray → Bool → Bool → Bool → Option (Bool)
 | 0, _, _, _, _, _ => none
 | k + 1, x0, x1, x2, x3, x18 => if x18 = true then ((remoralaw15_awake.f).bind fun t102 => (some t102)) else (remoralaw15_RulesActs.l0 k x0 x1 x2 x3 x0 (x0.length : Int) 0)
def remoralaw15_RulesActs.l0 : Nat → List (S24) → ByteArray → Bool → Bool → List (S24) → Int → Int → Option (Bool)
 | 0, _, _, _, _, _, _, _ => none
 | k + 1, x0, x1, x2, x3, x20, x21, x22 => if x22 < x21 then (if 0 ≤ x22 then (if x22 < (x20.length : Int) then ((rules_Matches.f k ((rd_T24 x20 x22).f0) ((rd_T24 x20 x22).f1) ((rd_T24 x20 x22).f2) ((rd_T24 x20 x22).f3) x1 x2).bind fun t105 => ((remoraref15_Matches.f k ((rd_T24 x20 x22).f0) ((rd_T24 x20 x22).f1) ((rd_T24 x20 x22).f2) ((rd_T24 x20 x22).f3) x1 x2).bind fun t106 => (if (t105 != t106) = true then (some false) else (remoralaw15_RulesActs.l0 k x0 x1 x2 x3 x20 x21 (wrap64 (x22 + 1)))))) else (none)) else (none)) else ((rules_Act.f k x0 x1 x2 x3).bind fun t107 => ((remoraref15_Act.f k x0 x1 x2 x3).bind fun t108 => (if t107 = t108 then ((rules_Hidden.f k x0 x1 x2).bind fun t109 => ((remoraref15_Hidden.f k x0 x1 x2).bind fun t110 => (if (t109 == t110) = true then ((rules_Safe.f k x0 x1 x2).bind fun t111 => ((remoraref15_Safe.f k x0 x1 x2).bind fun t112 => (if (t111 == t112) = true then ((remoralaw15_awake.f).bind fun t113 => (some t113)) else (some false)))) else (some false)))) else (some false))))
end
def remoralaw15_RulesActs.f (k : Nat) (l0 : List (S24)) (a1 : ByteArray) (a2 : Bool) (a3 : Bool) : Option (Bool) := (remoralaw15_light.f k l0).bind fun t101 => (if t101 = true then (remoralaw15_RulesActs.j0 k l0 a1 a2 a3 (decide ((a1.size : Int) > 300))) else (remoralaw15_RulesActs.j0 k l0 a1 a2 a3 true))
def remoralaw15_RulesActs.T6 : Bool × List (List Nat × List Nat) := (true, [([], []), ([], []), ([], []), ([0, 1, 2], [0, 1, 2]), ([], []), ([], []), ([], []), ([4, 5, 6, 3], [4, 5, 6]), ([3, 7], [3, 7])])
def remoralaw15_RulesActs.B6 : List Nat := [0, 0, 0, 7, 0, 0, 0, 127, 255]
theorem remoralaw15_RulesActs.tab6 : rtab .any (opsOf Tryd.f4 6) = remoralaw15_RulesActs.T6 := by kernel_rfl
theorem remoralaw15_RulesActs.bits6 : waitsOk remoralaw15_RulesActs.T6.2 remoralaw15_RulesActs.B6 = true := by kernel_rfl
set_option maxHeartbeats 8000000 in
set_option maxRecDepth 100000 in
theorem remoralaw15_RulesActs.calls (k : Nat) (A0 : Option Addr) (c0 : Nat) (l0 : List (S24)) (a1 : ByteArray) (a2 : Bool) (a3 : Bool) (r : Bool) (w : World) (hr0 : Kd.C k24 w A0 l0.length l0) (hc0 : l0.length ≤ c0) (h : remoralaw15_RulesActs.f k l0 a1 a2 a3 = some r) :
  Calls Tryd.prog 4 #[.slice A0 l0.length c0, .string a1, .bool a2, .bool a3] w fun e w' => e = .returned (.bool r) ∧ Below w.heap.size w w' := by
 have hu24 := Tryd.underlying24
 have HR0 := Aside0.mk hr0
 have HC0 := Aside0.mk hc0
 clear hr0 hc0
 have HB := Aside0.mk (Below.refl w.heap.size w)
 have H : ((remoralaw15_light.f k l0).bind fun t101 => (if t101 = true then (remoralaw15_RulesActs.j0 k l0 a1 a2 a3 (decide ((a1.size : Int) > 300))) else (remoralaw15_RulesActs.j0 k l0 a1 a2 a3 true))) = some r := h
 clear h
 have HC5 := Aside0.mk H
 clear H
 go_enter Tryd.func4, Tryd.ntmps4
 go_upto_region 1 with (fail)
 go_cut [18] (fun v18 wc => ∃ (kq : Nat) (x18_4 : Bool), v18 = .bool x18_4 ∧ Aside0 (remoralaw15_RulesActs.j0 kq l0 a1 a2 a3 x18_4 = some r) ∧ Aside0 (kq ≤ k) ∧ Aside0 (Below w.heap.size w wc))
 case first =>
  have H := HC5.out
  clear HC5
  replace H := Option.bind_eq_some_iff.mp H
  obtain ⟨t101, A60, H⟩ := H
  replace H : (if t101 = true then (remoralaw15_RulesActs.j0 k l0 a1 a2 a3 (decide ((a1.size : Int) > 300))) else (remoralaw15_RulesActs.j0 k l0 a1 a2 a3 true)) = some r := H
  have A6 := Aside0.mk A60
  clear A60
  by_cases c7 : t101 = true
  ·subst c7
   have H1 : (remoralaw15_RulesActs.j0 k l0 a1 a2 a3 (decide ((a1.size : Int) > 300))) = some r := by rw [if_pos rfl] at H; exact H
   clear H
   have H := H1
   clear H1
   have H' := Aside0.mk H
   clear H
   go_wp2_with (first | ((with_reducible refine gate_callee (f := 16) rfl ?_); refine goesL_ (some 12) rfl rfl Tryd.func16 (by kernel_rfl) rfl #[.slice A0 l0.length c0] rfl (by (try simp only [List.map_toArray, List.map_cons, List.map_nil]); first | done | rfl | (simp only [List.length_drop, List.length_take]; rfl)) ?_; (with_reducible refine (remoralaw15_light.calls k _ _ l0 true _ ?side1 ?side2 A6.out).mono ?_); (case side1 => repeat (first | exact (Kd.C_below HR0.out HB.out) | (with_reducible refine Kd.C_alloc ?_ _) | (with_reducible refine Kd.C_drewN ?_ _) | (with_reducible refine Kd.C_drew ?_))); (case side2 => exact HC0.out); rintro e w8 ⟨rfl, hb⟩; refine ⟨_, rfl, ?_⟩; have n0_ := Aside0.mk (below_step (by repeat (first | (with_reducible first | exact HB.out | apply below_alloc | apply pw_below_drewN | apply below_drew1) | exact HB.out)) hb); clear HB; have HB := n0_; clear n0_; (try clear hb); (try clear hb2); (try clear hk); (try clear hi)))
   go_meet
   case rel => exact ⟨_, (decide ((a1.size : Int) > 300)), (by first | rfl | (simp; done) | (simp [*]; done)), H', ⟨by first | omega | exact Nat.le_refl _⟩, ⟨by repeat (first | (with_reducible first | exact HB.out | apply below_alloc | apply pw_below_drewN | apply below_drew1) | exact HB.out)⟩⟩
  ·replace c7 := Bool.eq_false_iff.mpr c7
   subst c7
   have H1 : (remoralaw15_RulesActs.j0 k l0 a1 a2 a3 true) = some r := by rw [if_neg (show ¬ (false = true) by decide)] at H; exact H
   clear H
   have H := H1
   clear H1
   have H' := Aside0.mk H
   clear H
   go_wp2_with (first | ((with_reducible refine gate_callee (f := 16) rfl ?_); refine goesL_ (some 12) rfl rfl Tryd.func16 (by kernel_rfl) rfl #[.slice A0 l0.length c0] rfl (by (try simp only [List.map_toArray, List.map_cons, List.map_nil]); first | done | rfl | (simp only [List.length_drop, List.length_take]; rfl)) ?_; (with_reducible refine (remoralaw15_light.calls k _ _ l0 false _ ?side1 ?side2 A6.out).mono ?_); (case side1 => repeat (first | exact (Kd.C_below HR0.out HB.out) | (with_reducible refine Kd.C_alloc ?_ _) | (with_reducible refine Kd.C_drewN ?_ _) | (with_reducible refine Kd.C_drew ?_))); (case side2 => exact HC0.out); rintro e w9 ⟨rfl, hb⟩; refine ⟨_, rfl, ?_⟩; have n0_ := Aside0.mk (below_step (by repeat (first | (with_reducible first | exact HB.out | apply below_alloc | apply pw_below_drewN | apply below_drew1) | exact HB.out)) hb); clear HB; have HB := n0_; clear n0_; (try clear hb); (try clear hb2); (try clear hk); (try clear hi)))
   go_meet
   case rel => exact ⟨_, (true), (by first | rfl | (simp; done) | (simp [*]; done)), H', ⟨by first | omega | exact Nat.le_refl _⟩, ⟨by repeat (first | (with_reducible first | exact HB.out | apply below_alloc | apply pw_below_drewN | apply below_drew1) | exact HB.out)⟩⟩
 case rest =>
  clear HC5
  try clear c1
  try clear p2
  try clear c4
  try clear c7
  obtain ⟨kq, x18_4, rfl, HA, HJ4, HB⟩ := hcut
  cases kq with
  | zero => exact absurd HA.out (by simp [remoralaw15_RulesActs.j0])
  | succ kj4 =>
   have H := HA.out
   clear HA
   simp only [remoralaw15_RulesActs.j0] at H
   by_cases c10 : x18_4 = true
   ·subst c10
    have H1 : ((remoralaw15_awake.f).bind fun t102 => (some t102)) = some r := by rw [if_pos rfl] at H; exact H
    clear H
    have H := H1
    clear H1
    replace H := Option.bind_eq_some_iff.mp H
    obtain ⟨t102, A110, H⟩ := H
    replace H : (some t102) = some r := H
    have A11 := Aside0.mk A110
    clear A110
    obtain rfl := Option.some.inj H
    go_wp2_with (first | ((with_reducible refine gate_callee (f := 10) rfl ?_); refine goesL_ (some 19) rfl rfl Tryd.func10 (by kernel_rfl) rfl #[] rfl (by (try simp only [List.map_toArray, List.map_cons, List.map_nil]); first | done | rfl | (simp only [List.length_drop, List.length_take]; rfl)) ?_; (with_reducible refine (remoralaw15_awake.calls  t102 _ A11.out).mono ?_); rintro e w12 ⟨rfl, hb⟩; refine ⟨_, rfl, ?_⟩; have n0_ := Aside0.mk (below_step (by repeat (first | (with_reducible first | exact HB.out | apply below_alloc | apply pw_below_drewN | apply below_drew1) | exact HB.out)) hb); clear HB; have HB := n0_; clear n0_; (try clear hb); (try clear hb2); (try clear hk); (try clear hi)))
    go_ret
    exact ⟨by first | rfl | (simp [errW_none, errW_some] <;> rfl) | (simp [*, errW_none, errW_some] <;> rfl), by repeat (first | (with_reducible first | exact HB.out | apply below_alloc | apply pw_below_drewN | apply below_drew1) | exact HB.out)⟩
   ·replace c10 := Bool.eq_false_iff.mpr c10
    subst c10
    have H1 : (remoralaw15_RulesActs.l0 kj4 l0 a1 a2 a3 l0 (l0.length : Int) 0) = some r := by rw [if_neg (show ¬ (false = true) by decide)] at H; exact H
    clear H
    have H := H1
    clear H1
    have H' := Aside0.mk H
    clear H
    go_wp2
    go_loopg [22] kj4 (fun kq v22 w' => ∃ (x22_2 : Int), v22 = .int .i64 x22_2 ∧ Aside0 (remoralaw15_RulesActs.l0 kq l0 a1 a2 a3 l0 (l0.length : Int) x22_2 = some r) ∧ Aside0 (kq ≤ kj4) ∧ Aside0 (Below w.heap.size w w'))
    case atStart => exact ⟨(0), (by first | rfl | (simp; done) | (simp [*]; done)), H', ⟨Nat.le_refl _⟩, ⟨by repeat (first | (with_reducible first | exact HB.out | apply below_alloc | apply pw_below_drewN | apply below_drew1) | exact HB.out)⟩⟩
    case round =>
     clear H'
     try clear c1
     try clear p2
     try clear c4
     try clear c7
     try clear c10
     try clear p2
     obtain ⟨x22_2, rfl, HA, HK2, HB⟩ := hrel
     cases gk with
     | zero => exact absurd HA.out (by simp [remoralaw15_RulesActs.l0])
     | succ k2 =>
      have H := HA.out
      clear HA
      simp only [remoralaw15_RulesActs.l0] at H
      by_cases c13 : x22_2 < (l0.length : Int)
      ·rw [if_pos c13] at H
       have c13b0 : decide (x22_2 < (l0.length : Int)) = true := decide_eq_true c13
       clear c13
       by_cases c14 : 0 ≤ x22_2
       ·rw [if_pos c14] at H
        have c14b0 : decide (0 ≤ x22_2) = true := decide_eq_true c14
        clear c14
        by_cases c15 : x22_2 < (l0.length : Int)
        ·rw [if_pos c15] at H
         have c15b0 : decide (x22_2 < (l0.length : Int)) = true := decide_eq_true c15
         clear c15
         replace H := Option.bind_eq_some_iff.mp H
         obtain ⟨t105, A160, H⟩ := H
         replace H : ((remoraref15_Matches.f k2 ((rd_T24 l0 x22_2).f0) ((rd_T24 l0 x22_2).f1) ((rd_T24 l0 x22_2).f2) ((rd_T24 l0 x22_2).f3) a1 a2).bind fun t106 => (if (t105 != t106) = true then (some false) else (remoralaw15_RulesActs.l0 k2 l0 a1 a2 a3 l0 (l0.length : Int) (wrap64 (x22_2 + 1))))) = some r := H
         have A16 := Aside0.mk A160
         clear A160
         replace H := Option.bind_eq_some_iff.mp H
         obtain ⟨t106, A170, H⟩ := H
         replace H : (if (t105 != t106) = true then (some false) else (remoralaw15_RulesActs.l0 k2 l0 a1 a2 a3 l0 (l0.length : Int) (wrap64 (x22_2 + 1)))) = some r := H
         have A17 := Aside0.mk A170
         clear A170
         by_cases c18 : (t105 != t106) = true
         ·rw [if_pos c18] at H
          have c18b0 : (t105 != t106) = true := c18
          (try (have c18b1 : decide (t105 = t106) = false := by simpa using c18))
          (try (have c18b2 : (t105 == t106) = false := by simpa using c18))
          (try (have c18b3 : ¬ (t105 = t106) := by simpa using c18))
          clear c18
          obtain rfl := Option.some.inj H
          have p103 : 0 ≤ (x22_2 : Int) := of_decide_eq_true (by first | (with_reducible assumption) | assumption)
          have q103 : x22_2 < (l0.length : Int) := of_decide_eq_true (by first | (with_reducible assumption) | assumption)
          obtain ⟨ad103, e103, hx103_0, hx103_1, hx103_2, hx103_3⟩ := at_T24 HR0.out x22_2 p103 q103
          cases e103
          replace hx103_0 := (HB.out.cell (World.block_lt_of_cell? w _ hx103_0)).trans hx103_0
          replace hx103_1 := (HB.out.cell (World.block_lt_of_cell? w _ hx103_1)).trans hx103_1
          replace hx103_2 := (HB.out.cell (World.block_lt_of_cell? w _ hx103_2)).trans hx103_2
          replace hx103_3 := (HB.out.cell (World.block_lt_of_cell? w _ hx103_3)).trans hx103_3
          replace p103 := eq_true p103
          replace q103 := eq_true q103
          try go_wp2_with (first | ((with_reducible refine gate_dst (N := 10) rfl ?_); (try (refine gate_guard (by rfl) ?_; dsimp only)); refine box_event ?hg (N := 10) ?hd (cs := #[.int .i64 0, .string (⟨#[]⟩ : ByteArray), .bool false, .bool false]) (t := 24) ?hr ?_; (case hd => rfl); (case hg => rfl); (case hr => first | (go_simp; done) | (go_simp; rfl)); intro gb104 hg w19 hbox hb; have n0_ := Aside0.mk (below_step (by repeat (first | (with_reducible first | exact HB.out | apply below_alloc | apply pw_below_drewN | apply below_drew1) | exact HB.out)) hb); have n1_ := Aside0.mk (hbox); have n2_ := Aside0.mk ((by rw [hg]; exact (below_size (by repeat (first | (with_reducible first | exact HB.out | apply below_alloc | apply pw_below_drewN | apply below_drew1) | exact HB.out))) : w.heap.size ≤ gb104)); have n3_ := Aside0.mk ((by rw [hg]; exact (below_size (by repeat (first | (with_reducible first | exact HB.out | apply below_alloc | apply pw_below_drewN | apply below_drew1) | exact HB.out))) : w.heap.size ≤ gb104)); clear HB; have HB := n0_; have BK104 := n1_; have GW104 := n2_; have GE104 := n3_; clear n0_ n1_ n2_ n3_; clear hb hbox hg; have hcz20_0 : w19.cell? ⟨gb104, 0, none⟩ = some (.int .i64 0) := (blk_cell BK104.out 0).trans rfl; have hcz20_1 : w19.cell? ⟨gb104, 1, none⟩ = some (.string (⟨#[]⟩ : ByteArray)) := (blk_cell BK104.out 1).trans rfl; have hcz20_2 : w19.cell? ⟨gb104, 2, none⟩ = some (.bool false) := (blk_cell BK104.out 2).trans rfl; have hcz20_3 : w19.cell? ⟨gb104, 3, none⟩ = some (.bool false) := (blk_cell BK104.out 3).trans rfl; have hfz20_0 := blk_frozen BK104.out 0; have hfz20_1 := blk_frozen BK104.out 1; have hfz20_2 := blk_frozen BK104.out 2; have hfz20_3 := blk_frozen BK104.out 3))
          have n0_ : Aside0 (((((w19.setCell ⟨gb104, 0, none⟩ (.int .i64 ((rd_T24 l0 x22_2).f0))).setCell ⟨gb104, 1, none⟩ (.string ((rd_T24 l0 x22_2).f1))).setCell ⟨gb104, 2, none⟩ (.bool ((rd_T24 l0 x22_2).f2))).setCell ⟨gb104, 3, none⟩ (.bool ((rd_T24 l0 x22_2).f3))).heap[gb104]? = some (.cells #[.int .i64 ((rd_T24 l0 x22_2).f0), .string ((rd_T24 l0 x22_2).f1), .bool ((rd_T24 l0 x22_2).f2), .bool ((rd_T24 l0 x22_2).f3)] 24 (0, 0))) := ⟨by (with_reducible repeat (first | refine blk_drewN ?_ _ | refine blk_drew ?_ | refine blk_alloc ?_ _)); refine blk_put (cs := #[.int .i64 ((rd_T24 l0 x22_2).f0), .string ((rd_T24 l0 x22_2).f1), .bool ((rd_T24 l0 x22_2).f2), .bool false]) ?_ 3 _ rfl; (with_reducible repeat (first | refine blk_drewN ?_ _ | refine blk_drew ?_ | refine blk_alloc ?_ _)); refine blk_put (cs := #[.int .i64 ((rd_T24 l0 x22_2).f0), .string ((rd_T24 l0 x22_2).f1), .bool false, .bool false]) ?_ 2 _ rfl; (with_reducible repeat (first | refine blk_drewN ?_ _ | refine blk_drew ?_ | refine blk_alloc ?_ _)); refine blk_put (cs := #[.int .i64 ((rd_T24 l0 x22_2).f0), .string (⟨#[]⟩ : ByteArray), .bool false, .bool false]) ?_ 1 _ rfl; (with_reducible repeat (first | refine blk_drewN ?_ _ | refine blk_drew ?_ | refine blk_alloc ?_ _)); refine blk_put (cs := #[.int .i64 0, .string (⟨#[]⟩ : ByteArray), .bool false, .bool false]) ?_ 0 _ rfl; (with_reducible repeat (first | refine blk_drewN ?_ _ | refine blk_drew ?_ | refine blk_alloc ?_ _)); exact BK104.out⟩
          have n1_ : Aside0 (Below w.heap.size w ((((w19.setCell ⟨gb104, 0, none⟩ (.int .i64 ((rd_T24 l0 x22_2).f0))).setCell ⟨gb104, 1, none⟩ (.string ((rd_T24 l0 x22_2).f1))).setCell ⟨gb104, 2, none⟩ (.bool ((rd_T24 l0 x22_2).f2))).setCell ⟨gb104, 3, none⟩ (.bool ((rd_T24 l0 x22_2).f3)))) := ⟨by repeat (first | (with_reducible first | exact HB.out | apply below_alloc | apply pw_below_drewN | apply below_drew1 | refine below_set ?_ GE104.out) | exact HB.out)⟩
          (try clear BK104)
          (try clear HB)
          generalize ((((w19.setCell ⟨gb104, 0, none⟩ (.int .i64 ((rd_T24 l0 x22_2).f0))).setCell ⟨gb104, 1, none⟩ (.string ((rd_T24 l0 x22_2).f1))).setCell ⟨gb104, 2, none⟩ (.bool ((rd_T24 l0 x22_2).f2))).setCell ⟨gb104, 3, none⟩ (.bool ((rd_T24 l0 x22_2).f3))) = w21 at n0_ n1_ ⊢
          have BK104 := n0_
          have HB := n1_
          clear n0_ n1_
          have n0_ := Aside0.mk (blk_drew BK104.out)
          have n1_ := Aside0.mk (below_drew1 HB.out)
          clear BK104
          clear HB
          have BK104 := n0_
          have HB := n1_
          clear n0_ n1_
          refine start_ (n := 9) (S := fun w' => w'.cell? ⟨gb104, 0, none⟩ = some (.int .i64 ((rd_T24 l0 x22_2).f0)) ∧ w'.cell? ⟨gb104, 1, none⟩ = some (.string ((rd_T24 l0 x22_2).f1)) ∧ w'.cell? ⟨gb104, 2, none⟩ = some (.bool ((rd_T24 l0 x22_2).f2)) ∧ w'.cell? ⟨gb104, 3, none⟩ = some (.bool ((rd_T24 l0 x22_2).f3))) (ds := []) #[false, false, false, false, false, false, false, false, false] (by kernel_rfl) rfl rfl ⟨(blk_cell BK104.out 0).trans rfl, (blk_cell BK104.out 1).trans rfl, (blk_cell BK104.out 2).trans rfl, (blk_cell BK104.out 3).trans rfl⟩ (fun hHeld => ?_); refine with_tabW remoralaw15_RulesActs.tab6 remoralaw15_RulesActs.bits6 (fun HT_ HW_ => ?_)
          generalize w21.drew = w22 at BK104 HB hHeld ⊢
          refine pure_ (i := 1) (N := some 27) (v := ?_) (a' := ?_) #[false, true, false, false, false, false, false, false, false] rfl rfl (any_of HT_.out (by kernel_rfl)) (fun _ _ _ h => h) (Or.inl ⟨by rfl, ?_⟩) ?_ ?_
          rotate_left
          ·intro w'
           go_simp
           with_reducible rfl
          rotate_left
          ·simp only [Act.put, List.setIfInBounds_toArray, List.set_cons_zero, List.set_cons_succ, i64_w, i32_w]
           rfl
          refine pure_ (i := 2) (N := some 28) (v := ?_) (a' := ?_) #[false, true, true, false, false, false, false, false, false] rfl rfl (any_of HT_.out (by kernel_rfl)) (fun _ _ _ h => h) (Or.inl ⟨by rfl, ?_⟩) ?_ ?_
          rotate_left
          ·intro w'
           go_simp
           with_reducible rfl
          rotate_left
          ·simp only [Act.put, List.setIfInBounds_toArray, List.set_cons_zero, List.set_cons_succ, i64_w, i32_w]
           rfl
          refine pure_ (i := 5) (N := some 31) (v := ?_) (a' := ?_) #[false, true, true, false, false, true, false, false, false] rfl rfl (any_of HT_.out (by kernel_rfl)) (fun _ _ _ h => h) (Or.inl ⟨by rfl, ?_⟩) ?_ ?_
          rotate_left
          ·intro w'
           go_simp
           with_reducible rfl
          rotate_left
          ·simp only [Act.put, List.setIfInBounds_toArray, List.set_cons_zero, List.set_cons_succ, i64_w, i32_w]
           rfl
          refine pure_ (i := 6) (N := some 32) (v := ?_) (a' := ?_) #[false, true, true, false, false, true, true, false, false] rfl rfl (any_of HT_.out (by kernel_rfl)) (fun _ _ _ h => h) (Or.inl ⟨by rfl, ?_⟩) ?_ ?_
          rotate_left
          ·intro w'
           go_simp
           with_reducible rfl
          rotate_left
          ·simp only [Act.put, List.setIfInBounds_toArray, List.set_cons_zero, List.set_cons_succ, i64_w, i32_w]
           rfl
          refine take_ (i := 0) (N := some 26) (v := ?_) (a' := ?_) #[true, true, true, false, false, true, true, false, false] rfl rfl (take_ofW HT_.out HW_.out (by kernel_rfl)) (fun _ _ _ h => h) (Or.inl ⟨by rfl, ?_⟩) hHeld ?_ ?_
          rotate_left
          ·rintro w' ⟨s0, s1, s2, s3⟩
           go_simp
           with_reducible rfl
          rotate_left
          ·simp only [Act.put, List.setIfInBounds_toArray, List.set_cons_zero, List.set_cons_succ, i64_w, i32_w]
           rfl
          refine take_ (i := 4) (N := some 30) (v := ?_) (a' := ?_) #[true, true, true, false, true, true, true, false, false] rfl rfl (take_ofW HT_.out HW_.out (by kernel_rfl)) (fun _ _ _ h => h) (Or.inl ⟨by rfl, ?_⟩) hHeld ?_ ?_
          rotate_left
          ·rintro w' ⟨s0, s1, s2, s3⟩
           go_simp
           with_reducible rfl
          rotate_left
          ·simp only [Act.put, List.setIfInBounds_toArray, List.set_cons_zero, List.set_cons_succ, i64_w, i32_w]
           rfl
          refine one_ (i := 3) (N := some 29) #[true, true, true, true, true, true, true, false, false] rfl rfl (one_of HT_.out (by kernel_rfl)) (by decide) (fun K hK => ?_)
          refine goes_ Tryd.func17 (by kernel_rfl) rfl #[.agg #[.int .i64 ((rd_T24 l0 x22_2).f0), .string ((rd_T24 l0 x22_2).f1), .bool ((rd_T24 l0 x22_2).f2), .bool ((rd_T24 l0 x22_2).f3)], .string a1, .bool a2] (by rfl) rfl rfl (by (try simp only [List.map_toArray, List.map_cons, List.map_nil]); first | done | rfl | (simp only [List.length_drop, List.length_take]; rfl)) ?_
          with_reducible refine (rules_Matches.calls k2 ((rd_T24 l0 x22_2).f0) ((rd_T24 l0 x22_2).f1) ((rd_T24 l0 x22_2).f2) ((rd_T24 l0 x22_2).f3) a1 a2 t105 _ A16.out).mono ?_
          rintro e w23 ⟨rfl, hb⟩
          refine ⟨_, rfl, ?_⟩
          have n0_ := Aside0.mk (blk_below (g := gb104) (o := .cells #[.int .i64 ((rd_T24 l0 x22_2).f0), .string ((rd_T24 l0 x22_2).f1), .bool ((rd_T24 l0 x22_2).f2), .bool ((rd_T24 l0 x22_2).f3)] 24 (0, 0)) (by (with_reducible repeat (first | refine blk_drewN ?_ _ | refine blk_drew ?_ | refine blk_alloc ?_ _)); exact BK104.out) hb)
          have n1_ := Aside0.mk (below_step (by repeat (first | (with_reducible first | exact HB.out | apply below_alloc | apply pw_below_drewN | apply below_drew1 | refine below_set ?_ GE104.out) | exact HB.out)) hb)
          clear BK104
          clear HB
          have BK104 := n0_
          have HB := n1_
          clear n0_ n1_
          (try clear hb)
          (try clear hb2)
          (try clear hk)
          (try clear hi)
          refine hK.out _ _ ⟨(blk_cell BK104.out 0).trans rfl, (blk_cell BK104.out 1).trans rfl, (blk_cell BK104.out 2).trans rfl, (blk_cell BK104.out 3).trans rfl⟩ (fun hHeld => ?_)
          clear hK K
          refine norm_ (a' := ?_) ?_ ?_
          rotate_left
          ·show Act.put _ (some 29) _ = _
           simp only [Act.put, List.setIfInBounds_toArray, List.set_cons_zero, List.set_cons_succ, i64_w, i32_w]
           rfl
          refine one_ (i := 7) (N := some 33) #[true, true, true, true, true, true, true, true, false] rfl rfl (one_of HT_.out (by kernel_rfl)) (by decide) (fun K hK => ?_)
          refine goes_ Tryd.func18 (by kernel_rfl) rfl #[.agg #[.int .i64 ((rd_T24 l0 x22_2).f0), .string ((rd_T24 l0 x22_2).f1), .bool ((rd_T24 l0 x22_2).f2), .bool ((rd_T24 l0 x22_2).f3)], .string a1, .bool a2] (by rfl) rfl rfl (by (try simp only [List.map_toArray, List.map_cons, List.map_nil]); first | done | rfl | (simp only [List.length_drop, List.length_take]; rfl)) ?_
          with_reducible refine (remoraref15_Matches.calls k2 ((rd_T24 l0 x22_2).f0) ((rd_T24 l0 x22_2).f1) ((rd_T24 l0 x22_2).f2) ((rd_T24 l0 x22_2).f3) a1 a2 t106 _ A17.out).mono ?_
          rintro e w24 ⟨rfl, hb⟩
          refine ⟨_, rfl, ?_⟩
          have n0_ := Aside0.mk (blk_below (g := gb104) (o := .cells #[.int .i64 ((rd_T24 l0 x22_2).f0), .string ((rd_T24 l0 x22_2).f1), .bool ((rd_T24 l0 x22_2).f2), .bool ((rd_T24 l0 x22_2).f3)] 24 (0, 0)) (by (with_reducible repeat (first | refine blk_drewN ?_ _ | refine blk_drew ?_ | refine blk_alloc ?_ _)); exact BK104.out) hb)
          have n1_ := Aside0.mk (below_step (by repeat (first | (with_reducible first | exact HB.out | apply below_alloc | apply pw_below_drewN | apply below_drew1 | refine below_set ?_ GE104.out) | exact HB.out)) hb)
          clear BK104
          clear HB
          have BK104 := n0_
          have HB := n1_
          clear n0_ n1_
          (try clear hb)
          (try clear hb2)
          (try clear hk)
          (try clear hi)
          refine hK.out _ _ ⟨(blk_cell BK104.out 0).trans rfl, (blk_cell BK104.out 1).trans rfl, (blk_cell BK104.out 2).trans rfl, (blk_cell BK104.out 3).trans rfl⟩ (fun hHeld => ?_)
          clear hK K
          refine norm_ (a' := ?_) ?_ ?_
          rotate_left
          ·show Act.put _ (some 33) _ = _
           simp only [Act.put, List.setIfInBounds_toArray, List.set_cons_zero, List.set_cons_succ, i64_w, i32_w]
           rfl
          refine pure_ (i := 8) (N := some 34) (v := ?_) (a' := ?_) #[true, true, true, true, true, true, true, true, true] rfl rfl (any_of HT_.out (by kernel_rfl)) (fun _ _ _ h => h) (Or.inl ⟨by rfl, ?_⟩) ?_ ?_
          rotate_left
          ·intro w'
           go_simp
           with_reducible rfl
          rotate_left
          ·simp only [Act.put, List.setIfInBounds_toArray, List.set_cons_zero, List.set_cons_succ, i64_w, i32_w]
           rfl
          refine done_ (done_of HT_.out (by kernel_rfl)) ?_
          try go_wp2
          go_ret
          exact ⟨by first | rfl | (simp [errW_none, errW_some] <;> rfl) | (simp [*, errW_none, errW_some] <;> rfl), by repeat (first | (with_reducible first | exact HB.out | apply below_alloc | apply pw_below_drewN | apply below_drew1 | refine below_set ?_ GE104.out) | exact HB.out)⟩
         ·rw [if_neg c18] at H
          have c18b0 : (t105 != t106) = false := by simpa using c18
          (try (have c18b1 : decide (t105 = t106) = true := by simpa using c18))
          (try (have c18b2 : (t105 == t106) = true := by simpa using c18))
          clear c18
          have H' := Aside0.mk H
          clear H
          have p103 : 0 ≤ (x22_2 : Int) := of_decide_eq_true (by first | (with_reducible assumption) | assumption)
          have q103 : x22_2 < (l0.length : Int) := of_decide_eq_true (by first | (with_reducible assumption) | assumption)
          obtain ⟨ad103, e103, hx103_0, hx103_1, hx103_2, hx103_3⟩ := at_T24 HR0.out x22_2 p103 q103
          cases e103
          replace hx103_0 := (HB.out.cell (World.block_lt_of_cell? w _ hx103_0)).trans hx103_0
          replace hx103_1 := (HB.out.cell (World.block_lt_of_cell? w _ hx103_1)).trans hx103_1
          replace hx103_2 := (HB.out.cell (World.block_lt_of_cell? w _ hx103_2)).trans hx103_2
          replace hx103_3 := (HB.out.cell (World.block_lt_of_cell? w _ hx103_3)).trans hx103_3
          replace p103 := eq_true p103
          replace q103 := eq_true q103
          try go_wp2_with (first | ((with_reducible refine gate_dst (N := 10) rfl ?_); (try (refine gate_guard (by rfl) ?_; dsimp only)); refine box_event ?hg (N := 10) ?hd (cs := #[.int .i64 0, .string (⟨#[]⟩ : ByteArray), .bool false, .bool false]) (t := 24) ?hr ?_; (case hd => rfl); (case hg => rfl); (case hr => first | (go_simp; done) | (go_simp; rfl)); intro gb104 hg w25 hbox hb; have n0_ := Aside0.mk (below_step (by repeat (first | (with_reducible first | exact HB.out | apply below_alloc | apply pw_below_drewN | apply below_drew1) | exact HB.out)) hb); have n1_ := Aside0.mk (hbox); have n2_ := Aside0.mk ((by rw [hg]; exact (below_size (by repeat (first | (with_reducible first | exact HB.out | apply below_alloc | apply pw_below_drewN | apply below_drew1) | exact HB.out))) : w.heap.size ≤ gb104)); have n3_ := Aside0.mk ((by rw [hg]; exact (below_size (by repeat (first | (with_reducible first | exact HB.out | apply below_alloc | apply pw_below_drewN | apply below_drew1) | exact HB.out))) : w.heap.size ≤ gb104)); clear HB; have HB := n0_; have BK104 := n1_; have GW104 := n2_; have GE104 := n3_; clear n0_ n1_ n2_ n3_; clear hb hbox hg; have hcz26_0 : w25.cell? ⟨gb104, 0, none⟩ = some (.int .i64 0) := (blk_cell BK104.out 0).trans rfl; have hcz26_1 : w25.cell? ⟨gb104, 1, none⟩ = some (.string (⟨#[]⟩ : ByteArray)) := (blk_cell BK104.out 1).trans rfl; have hcz26_2 : w25.cell? ⟨gb104, 2, none⟩ = some (.bool false) := (blk_cell BK104.out 2).trans rfl; have hcz26_3 : w25.cell? ⟨gb104, 3, none⟩ = some (.bool false) := (blk_cell BK104.out 3).trans rfl; have hfz26_0 := blk_frozen BK104.out 0; have hfz26_1 := blk_frozen BK104.out 1; have hfz26_2 := blk_frozen BK104.out 2; have hfz26_3 := blk_frozen BK104.out 3))
          have n0_ : Aside0 (((((w25.setCell ⟨gb104, 0, none⟩ (.int .i64 ((rd_T24 l0 x22_2).f0))).setCell ⟨gb104, 1, none⟩ (.string ((rd_T24 l0 x22_2).f1))).setCell ⟨gb104, 2, none⟩ (.bool ((rd_T24 l0 x22_2).f2))).setCell ⟨gb104, 3, none⟩ (.bool ((rd_T24 l0 x22_2).f3))).heap[gb104]? = some (.cells #[.int .i64 ((rd_T24 l0 x22_2).f0), .string ((rd_T24 l0 x22_2).f1), .bool ((rd_T24 l0 x22_2).f2), .bool ((rd_T24 l0 x22_2).f3)] 24 (0, 0))) := ⟨by (with_reducible repeat (first | refine blk_drewN ?_ _ | refine blk_drew ?_ | refine blk_alloc ?_ _)); refine blk_put (cs := #[.int .i64 ((rd_T24 l0 x22_2).f0), .string ((rd_T24 l0 x22_2).f1), .bool ((rd_T24 l0 x22_2).f2), .bool false]) ?_ 3 _ rfl; (with_reducible repeat (first | refine blk_drewN ?_ _ | refine blk_drew ?_ | refine blk_alloc ?_ _)); refine blk_put (cs := #[.int .i64 ((rd_T24 l0 x22_2).f0), .string ((rd_T24 l0 x22_2).f1), .bool false, .bool false]) ?_ 2 _ rfl; (with_reducible repeat (first | refine blk_drewN ?_ _ | refine blk_drew ?_ | refine blk_alloc ?_ _)); refine blk_put (cs := #[.int .i64 ((rd_T24 l0 x22_2).f0), .string (⟨#[]⟩ : ByteArray), .bool false, .bool false]) ?_ 1 _ rfl; (with_reducible repeat (first | refine blk_drewN ?_ _ | refine blk_drew ?_ | refine blk_alloc ?_ _)); refine blk_put (cs := #[.int .i64 0, .string (⟨#[]⟩ : ByteArray), .bool false, .bool false]) ?_ 0 _ rfl; (with_reducible repeat (first | refine blk_drewN ?_ _ | refine blk_drew ?_ | refine blk_alloc ?_ _)); exact BK104.out⟩
          have n1_ : Aside0 (Below w.heap.size w ((((w25.setCell ⟨gb104, 0, none⟩ (.int .i64 ((rd_T24 l0 x22_2).f0))).setCell ⟨gb104, 1, none⟩ (.string ((rd_T24 l0 x22_2).f1))).setCell ⟨gb104, 2, none⟩ (.bool ((rd_T24 l0 x22_2).f2))).setCell ⟨gb104, 3, none⟩ (.bool ((rd_T24 l0 x22_2).f3)))) := ⟨by repeat (first | (with_reducible first | exact HB.out | apply below_alloc | apply pw_below_drewN | apply below_drew1 | refine below_set ?_ GE104.out) | exact HB.out)⟩
          (try clear BK104)
          (try clear HB)
          generalize ((((w25.setCell ⟨gb104, 0, none⟩ (.int .i64 ((rd_T24 l0 x22_2).f0))).setCell ⟨gb104, 1, none⟩ (.string ((rd_T24 l0 x22_2).f1))).setCell ⟨gb104, 2, none⟩ (.bool ((rd_T24 l0 x22_2).f2))).setCell ⟨gb104, 3, none⟩ (.bool ((rd_T24 l0 x22_2).f3))) = w27 at n0_ n1_ ⊢
          have BK104 := n0_
          have HB := n1_
          clear n0_ n1_
          have n0_ := Aside0.mk (blk_drew BK104.out)
          have n1_ := Aside0.mk (below_drew1 HB.out)
          clear BK104
          clear HB
          have BK104 := n0_
          have HB := n1_
          clear n0_ n1_
          refine start_ (n := 9) (S := fun w' => w'.cell? ⟨gb104, 0, none⟩ = some (.int .i64 ((rd_T24 l0 x22_2).f0)) ∧ w'.cell? ⟨gb104, 1, none⟩ = some (.string ((rd_T24 l0 x22_2).f1)) ∧ w'.cell? ⟨gb104, 2, none⟩ = some (.bool ((rd_T24 l0 x22_2).f2)) ∧ w'.cell? ⟨gb104, 3, none⟩ = some (.bool ((rd_T24 l0 x22_2).f3))) (ds := []) #[false, false, false, false, false, false, false, false, false] (by kernel_rfl) rfl rfl ⟨(blk_cell BK104.out 0).trans rfl, (blk_cell BK104.out 1).trans rfl, (blk_cell BK104.out 2).trans rfl, (blk_cell BK104.out 3).trans rfl⟩ (fun hHeld => ?_); refine with_tabW remoralaw15_RulesActs.tab6 remoralaw15_RulesActs.bits6 (fun HT_ HW_ => ?_)
          generalize w27.drew = w28 at BK104 HB hHeld ⊢
          refine pure_ (i := 1) (N := some 27) (v := ?_) (a' := ?_) #[false, true, false, false, false, false, false, false, false] rfl rfl (any_of HT_.out (by kernel_rfl)) (fun _ _ _ h => h) (Or.inl ⟨by rfl, ?_⟩) ?_ ?_
          rotate_left
          ·intro w'
           go_simp
           with_reducible rfl
          rotate_left
          ·simp only [Act.put, List.setIfInBounds_toArray, List.set_cons_zero, List.set_cons_succ, i64_w, i32_w]
           rfl
          refine pure_ (i := 2) (N := some 28) (v := ?_) (a' := ?_) #[false, true, true, false, false, false, false, false, false] rfl rfl (any_of HT_.out (by kernel_rfl)) (fun _ _ _ h => h) (Or.inl ⟨by rfl, ?_⟩) ?_ ?_
          rotate_left
          ·intro w'
           go_simp
           with_reducible rfl
          rotate_left
          ·simp only [Act.put, List.setIfInBounds_toArray, List.set_cons_zero, List.set_cons_succ, i64_w, i32_w]
           rfl
          refine pure_ (i := 5) (N := some 31) (v := ?_) (a' := ?_) #[false, true, true, false, false, true, false, false, false] rfl rfl (any_of HT_.out (by kernel_rfl)) (fun _ _ _ h => h) (Or.inl ⟨by rfl, ?_⟩) ?_ ?_
          rotate_left
          ·intro w'
           go_simp
           with_reducible rfl
          rotate_left
          ·simp only [Act.put, List.setIfInBounds_toArray, List.set_cons_zero, List.set_cons_succ, i64_w, i32_w]
           rfl
          refine pure_ (i := 6) (N := some 32) (v := ?_) (a' := ?_) #[false, true, true, false, false, true, true, false, false] rfl rfl (any_of HT_.out (by kernel_rfl)) (fun _ _ _ h => h) (Or.inl ⟨by rfl, ?_⟩) ?_ ?_
          rotate_left
          ·intro w'
           go_simp
           with_reducible rfl
          rotate_left
          ·simp only [Act.put, List.setIfInBounds_toArray, List.set_cons_zero, List.set_cons_succ, i64_w, i32_w]
           rfl
          refine take_ (i := 0) (N := some 26) (v := ?_) (a' := ?_) #[true, true, true, false, false, true, true, false, false] rfl rfl (take_ofW HT_.out HW_.out (by kernel_rfl)) (fun _ _ _ h => h) (Or.inl ⟨by rfl, ?_⟩) hHeld ?_ ?_
          rotate_left
          ·rintro w' ⟨s0, s1, s2, s3⟩
           go_simp
           with_reducible rfl
          rotate_left
          ·simp only [Act.put, List.setIfInBounds_toArray, List.set_cons_zero, List.set_cons_succ, i64_w, i32_w]
           rfl
          refine take_ (i := 4) (N := some 30) (v := ?_) (a' := ?_) #[true, true, true, false, true, true, true, false, false] rfl rfl (take_ofW HT_.out HW_.out (by kernel_rfl)) (fun _ _ _ h => h) (Or.inl ⟨by rfl, ?_⟩) hHeld ?_ ?_
          rotate_left
          ·rintro w' ⟨s0, s1, s2, s3⟩
           go_simp
           with_reducible rfl
          rotate_left
          ·simp only [Act.put, List.setIfInBounds_toArray, List.set_cons_zero, List.set_cons_succ, i64_w, i32_w]
           rfl
          refine one_ (i := 3) (N := some 29) #[true, true, true, true, true, true, true, false, false] rfl rfl (one_of HT_.out (by kernel_rfl)) (by decide) (fun K hK => ?_)
          refine goes_ Tryd.func17 (by kernel_rfl) rfl #[.agg #[.int .i64 ((rd_T24 l0 x22_2).f0), .string ((rd_T24 l0 x22_2).f1), .bool ((rd_T24 l0 x22_2).f2), .bool ((rd_T24 l0 x22_2).f3)], .string a1, .bool a2] (by rfl) rfl rfl (by (try simp only [List.map_toArray, List.map_cons, List.map_nil]); first | done | rfl | (simp only [List.length_drop, List.length_take]; rfl)) ?_
          with_reducible refine (rules_Matches.calls k2 ((rd_T24 l0 x22_2).f0) ((rd_T24 l0 x22_2).f1) ((rd_T24 l0 x22_2).f2) ((rd_T24 l0 x22_2).f3) a1 a2 t105 _ A16.out).mono ?_
          rintro e w29 ⟨rfl, hb⟩
          refine ⟨_, rfl, ?_⟩
          have n0_ := Aside0.mk (blk_below (g := gb104) (o := .cells #[.int .i64 ((rd_T24 l0 x22_2).f0), .string ((rd_T24 l0 x22_2).f1), .bool ((rd_T24 l0 x22_2).f2), .bool ((rd_T24 l0 x22_2).f3)] 24 (0, 0)) (by (with_reducible repeat (first | refine blk_drewN ?_ _ | refine blk_drew ?_ | refine blk_alloc ?_ _)); exact BK104.out) hb)
          have n1_ := Aside0.mk (below_step (by repeat (first | (with_reducible first | exact HB.out | apply below_alloc | apply pw_below_drewN | apply below_drew1 | refine below_set ?_ GE104.out) | exact HB.out)) hb)
          clear BK104
          clear HB
          have BK104 := n0_
          have HB := n1_
          clear n0_ n1_
          (try clear hb)
          (try clear hb2)
          (try clear hk)
          (try clear hi)
          refine hK.out _ _ ⟨(blk_cell BK104.out 0).trans rfl, (blk_cell BK104.out 1).trans rfl, (blk_cell BK104.out 2).trans rfl, (blk_cell BK104.out 3).trans rfl⟩ (fun hHeld => ?_)
          clear hK K
          refine norm_ (a' := ?_) ?_ ?_
          rotate_left
          ·show Act.put _ (some 29) _ = _
           simp only [Act.put, List.setIfInBounds_toArray, List.set_cons_zero, List.set_cons_succ, i64_w, i32_w]
           rfl
          refine one_ (i := 7) (N := some 33) #[true, true, true, true, true, true, true, true, false] rfl rfl (one_of HT_.out (by kernel_rfl)) (by decide) (fun K hK => ?_)
          refine goes_ Tryd.func18 (by kernel_rfl) rfl #[.agg #[.int .i64 ((rd_T24 l0 x22_2).f0), .string ((rd_T24 l0 x22_2).f1), .bool ((rd_T24 l0 x22_2).f2), .bool ((rd_T24 l0 x22_2).f3)], .string a1, .bool a2] (by rfl) rfl rfl (by (try simp only [List.map_toArray, List.map_cons, List.map_nil]); first | done | rfl | (simp only [List.length_drop, List.length_take]; rfl)) ?_
          with_reducible refine (remoraref15_Matches.calls k2 ((rd_T24 l0 x22_2).f0) ((rd_T24 l0 x22_2).f1) ((rd_T24 l0 x22_2).f2) ((rd_T24 l0 x22_2).f3) a1 a2 t106 _ A17.out).mono ?_
          rintro e w30 ⟨rfl, hb⟩
          refine ⟨_, rfl, ?_⟩
          have n0_ := Aside0.mk (blk_below (g := gb104) (o := .cells #[.int .i64 ((rd_T24 l0 x22_2).f0), .string ((rd_T24 l0 x22_2).f1), .bool ((rd_T24 l0 x22_2).f2), .bool ((rd_T24 l0 x22_2).f3)] 24 (0, 0)) (by (with_reducible repeat (first | refine blk_drewN ?_ _ | refine blk_drew ?_ | refine blk_alloc ?_ _)); exact BK104.out) hb)
          have n1_ := Aside0.mk (below_step (by repeat (first | (with_reducible first | exact HB.out | apply below_alloc | apply pw_below_drewN | apply below_drew1 | refine below_set ?_ GE104.out) | exact HB.out)) hb)
          clear BK104
          clear HB
          have BK104 := n0_
          have HB := n1_
          clear n0_ n1_
          (try clear hb)
          (try clear hb2)
          (try clear hk)
          (try clear hi)
          refine hK.out _ _ ⟨(blk_cell BK104.out 0).trans rfl, (blk_cell BK104.out 1).trans rfl, (blk_cell BK104.out 2).trans rfl, (blk_cell BK104.out 3).trans rfl⟩ (fun hHeld => ?_)
          clear hK K
          refine norm_ (a' := ?_) ?_ ?_
          rotate_left
          ·show Act.put _ (some 33) _ = _
           simp only [Act.put, List.setIfInBounds_toArray, List.set_cons_zero, List.set_cons_succ, i64_w, i32_w]
           rfl
          refine pure_ (i := 8) (N := some 34) (v := ?_) (a' := ?_) #[true, true, true, true, true, true, true, true, true] rfl rfl (any_of HT_.out (by kernel_rfl)) (fun _ _ _ h => h) (Or.inl ⟨by rfl, ?_⟩) ?_ ?_
          rotate_left
          ·intro w'
           go_simp
           with_reducible rfl
          rotate_left
          ·simp only [Act.put, List.setIfInBounds_toArray, List.set_cons_zero, List.set_cons_succ, i64_w, i32_w]
           rfl
          refine done_ (done_of HT_.out (by kernel_rfl)) ?_
          try go_wp2
          go_roundg k2
          case measure => have := HJ4.out; have := HK2.out; omega
          case rel => exact ⟨(wrap64 (x22_2 + 1)), (by first | rfl | (simp; done) | (simp [*]; done)), H', ⟨by have := HJ4.out; have := HK2.out; omega⟩, ⟨by repeat (first | (with_reducible first | exact HB.out | apply below_alloc | apply pw_below_drewN | apply below_drew1 | refine below_set ?_ GE104.out) | exact HB.out)⟩⟩
        ·rw [if_neg c15] at H
         exact absurd H (by simp)
       ·rw [if_neg c14] at H
        exact absurd H (by simp)
      ·rw [if_neg c13] at H
       have c13b0 : decide (x22_2 < (l0.length : Int)) = false := decide_eq_false c13
       clear c13
       replace H := Option.bind_eq_some_iff.mp H
       obtain ⟨t107, A310, H⟩ := H
       replace H : ((remoraref15_Act.f k2 l0 a1 a2 a3).bind fun t108 => (if t107 = t108 then ((rules_Hidden.f k2 l0 a1 a2).bind fun t109 => ((remoraref15_Hidden.f k2 l0 a1 a2).bind fun t110 => (if (t109 == t110) = true then ((rules_Safe.f k2 l0 a1 a2).bind fun t111 => ((remoraref15_Safe.f k2 l0 a1 a2).bind fun t112 => (if (t111 == t112) = true then ((remoralaw15_awake.f).bind fun t113 => (some t113)) else (some false)))) else (some false)))) else (some false))) = some r := H
       have A31 := Aside0.mk A310
       clear A310
       replace H := Option.bind_eq_some_iff.mp H
       obtain ⟨t108, A320, H⟩ := H
       replace H : (if t107 = t108 then ((rules_Hidden.f k2 l0 a1 a2).bind fun t109 => ((remoraref15_Hidden.f k2 l0 a1 a2).bind fun t110 => (if (t109 == t110) = true then ((rules_Safe.f k2 l0 a1 a2).bind fun t111 => ((remoraref15_Safe.f k2 l0 a1 a2).bind fun t112 => (if (t111 == t112) = true then ((remoralaw15_awake.f).bind fun t113 => (some t113)) else (some false)))) else (some false)))) else (some false)) = some r := H
       have A32 := Aside0.mk A320
       clear A320
       by_cases c33 : t107 = t108
       ·rw [if_pos c33] at H
        have c33b0 : (t107 == t108) = true := beq_iff_eq.mpr c33
        have c33b1 : (t107 != t108) = false := bne_eq_false_iff_eq.mpr c33
        clear c33
        replace H := Option.bind_eq_some_iff.mp H
        obtain ⟨t109, A340, H⟩ := H
        replace H : ((remoraref15_Hidden.f k2 l0 a1 a2).bind fun t110 => (if (t109 == t110) = true then ((rules_Safe.f k2 l0 a1 a2).bind fun t111 => ((remoraref15_Safe.f k2 l0 a1 a2).bind fun t112 => (if (t111 == t112) = true then ((remoralaw15_awake.f).bind fun t113 => (some t113)) else (some false)))) else (some false))) = some r := H
        have A34 := Aside0.mk A340
        clear A340
        replace H := Option.bind_eq_some_iff.mp H
        obtain ⟨t110, A350, H⟩ := H
        replace H : (if (t109 == t110) = true then ((rules_Safe.f k2 l0 a1 a2).bind fun t111 => ((remoraref15_Safe.f k2 l0 a1 a2).bind fun t112 => (if (t111 == t112) = true then ((remoralaw15_awake.f).bind fun t113 => (some t113)) else (some false)))) else (some false)) = some r := H
        have A35 := Aside0.mk A350
        clear A350
        by_cases c36 : (t109 == t110) = true
        ·rw [if_pos c36] at H
         have c36b0 : (t109 == t110) = true := c36
         (try (have c36b1 : decide (t109 = t110) = true := by simpa using c36))
         (try (have c36b2 : (t109 == t110) = true := by simpa using c36))
         clear c36
         replace H := Option.bind_eq_some_iff.mp H
         obtain ⟨t111, A370, H⟩ := H
         replace H : ((remoraref15_Safe.f k2 l0 a1 a2).bind fun t112 => (if (t111 == t112) = true then ((remoralaw15_awake.f).bind fun t113 => (some t113)) else (some false))) = some r := H
         have A37 := Aside0.mk A370
         clear A370
         replace H := Option.bind_eq_some_iff.mp H
         obtain ⟨t112, A380, H⟩ := H
         replace H : (if (t111 == t112) = true then ((remoralaw15_awake.f).bind fun t113 => (some t113)) else (some false)) = some r := H
         have A38 := Aside0.mk A380
         clear A380
         by_cases c39 : (t111 == t112) = true
         ·rw [if_pos c39] at H
          have c39b0 : (t111 == t112) = true := c39
          (try (have c39b1 : decide (t111 = t112) = true := by simpa using c39))
          (try (have c39b2 : (t111 == t112) = true := by simpa using c39))
          clear c39
          replace H := Option.bind_eq_some_iff.mp H
          obtain ⟨t113, A400, H⟩ := H
          replace H : (some t113) = some r := H
          have A40 := Aside0.mk A400
          clear A400
          obtain rfl := Option.some.inj H
          go_wp2_with (first | ((with_reducible refine gate_callee (f := 19) rfl ?_); refine goesL_ (some 40) rfl rfl Tryd.func19 (by kernel_rfl) rfl #[.slice A0 l0.length c0, .string a1, .bool a2, .bool a3] rfl (by (try simp only [List.map_toArray, List.map_cons, List.map_nil]); first | done | rfl | (simp only [List.length_drop, List.length_take]; rfl)) ?_; (with_reducible refine (rules_Act.calls k2 _ _ l0 a1 a2 a3 t107 _ ?side1 ?side2 A31.out).mono ?_); (case side1 => repeat (first | exact (Kd.C_below HR0.out HB.out) | (with_reducible refine Kd.C_alloc ?_ _) | (with_reducible refine Kd.C_drewN ?_ _) | (with_reducible refine Kd.C_drew ?_))); (case side2 => exact HC0.out); rintro e w41 ⟨rfl, hb⟩; refine ⟨_, rfl, ?_⟩; have n0_ := Aside0.mk (below_step (by repeat (first | (with_reducible first | exact HB.out | apply below_alloc | apply pw_below_drewN | apply below_drew1) | exact HB.out)) hb); clear HB; have HB := n0_; clear n0_; (try clear hb); (try clear hb2); (try clear hk); (try clear hi)) | ((with_reducible refine gate_callee (f := 20) rfl ?_); refine goesL_ (some 45) rfl rfl Tryd.func20 (by kernel_rfl) rfl #[.slice A0 l0.length c0, .string a1, .bool a2, .bool a3] rfl (by (try simp only [List.map_toArray, List.map_cons, List.map_nil]); first | done | rfl | (simp only [List.length_drop, List.length_take]; rfl)) ?_; (with_reducible refine (remoraref15_Act.calls k2 _ _ l0 a1 a2 a3 t108 _ ?side1 ?side2 A32.out).mono ?_); (case side1 => repeat (first | exact (Kd.C_below HR0.out HB.out) | (with_reducible refine Kd.C_alloc ?_ _) | (with_reducible refine Kd.C_drewN ?_ _) | (with_reducible refine Kd.C_drew ?_))); (case side2 => exact HC0.out); rintro e w42 ⟨rfl, hb⟩; refine ⟨_, rfl, ?_⟩; have n0_ := Aside0.mk (below_step (by repeat (first | (with_reducible first | exact HB.out | apply below_alloc | apply pw_below_drewN | apply below_drew1) | exact HB.out)) hb); clear HB; have HB := n0_; clear n0_; (try clear hb); (try clear hb2); (try clear hk); (try clear hi)) | (go_at_call 21; (with_reducible refine (rules_Hidden.calls k2 _ _ l0 a1 a2 t109 _ ?side1 ?side2 A34.out).mono ?_); (case side1 => repeat (first | exact (Kd.C_below HR0.out HB.out) | (with_reducible refine Kd.C_alloc ?_ _) | (with_reducible refine Kd.C_drewN ?_ _) | (with_reducible refine Kd.C_drew ?_))); (case side2 => exact HC0.out); rintro e w43 ⟨rfl, hb⟩; have n0_ := Aside0.mk (below_step (by repeat (first | (with_reducible first | exact HB.out | apply below_alloc | apply pw_below_drewN | apply below_drew1) | exact HB.out)) hb); clear HB; have HB := n0_; clear n0_; (try clear hb); (try clear hb2); (try clear hk); (try clear hi)) | (go_at_call 22; (with_reducible refine (remoraref15_Hidden.calls k2 _ _ l0 a1 a2 t110 _ ?side1 ?side2 A35.out).mono ?_); (case side1 => repeat (first | exact (Kd.C_below HR0.out HB.out) | (with_reducible refine Kd.C_alloc ?_ _) | (with_reducible refine Kd.C_drewN ?_ _) | (with_reducible refine Kd.C_drew ?_))); (case side2 => exact HC0.out); rintro e w44 ⟨rfl, hb⟩; have n0_ := Aside0.mk (below_step (by repeat (first | (with_reducible first | exact HB.out | apply below_alloc | apply pw_below_drewN | apply below_drew1) | exact HB.out)) hb); clear HB; have HB := n0_; clear n0_; (try clear hb); (try clear hb2); (try clear hk); (try clear hi)) | (go_at_call 23; (with_reducible refine (rules_Safe.calls k2 _ _ l0 a1 a2 t111 _ ?side1 ?side2 A37.out).mono ?_); (case side1 => repeat (first | exact (Kd.C_below HR0.out HB.out) | (with_reducible refine Kd.C_alloc ?_ _) | (with_reducible refine Kd.C_drewN ?_ _) | (with_reducible refine Kd.C_drew ?_))); (case side2 => exact HC0.out); rintro e w45 ⟨rfl, hb⟩; have n0_ := Aside0.mk (below_step (by repeat (first | (with_reducible first | exact HB.out | apply below_alloc | apply pw_below_drewN | apply below_drew1) | exact HB.out)) hb); clear HB; have HB := n0_; clear n0_; (try clear hb); (try clear hb2); (try clear hk); (try clear hi)) | (go_at_call 24; (with_reducible refine (remoraref15_Safe.calls k2 _ _ l0 a1 a2 t112 _ ?side1 ?side2 A38.out).mono ?_); (case side1 => repeat (first | exact (Kd.C_below HR0.out HB.out) | (with_reducible refine Kd.C_alloc ?_ _) | (with_reducible refine Kd.C_drewN ?_ _) | (with_reducible refine Kd.C_drew ?_))); (case side2 => exact HC0.out); rintro e w46 ⟨rfl, hb⟩; have n0_ := Aside0.mk (below_step (by repeat (first | (with_reducible first | exact HB.out | apply below_alloc | apply pw_below_drewN | apply below_drew1) | exact HB.out)) hb); clear HB; have HB := n0_; clear n0_; (try clear hb); (try clear hb2); (try clear hk); (try clear hi)) | (go_at_call 10; (with_reducible refine (remoralaw15_awake.calls  t113 _ A40.out).mono ?_); rintro e w47 ⟨rfl, hb⟩; have n0_ := Aside0.mk (below_step (by repeat (first | (with_reducible first | exact HB.out | apply below_alloc | apply pw_below_drewN | apply below_drew1) | exact HB.out)) hb); clear HB; have HB := n0_; clear n0_; (try clear hb); (try clear hb2); (try clear hk); (try clear hi)))
          go_ret
          exact ⟨by first | rfl | (simp [errW_none, errW_some] <;> rfl) | (simp [*, errW_none, errW_some] <;> rfl), by repeat (first | (with_reducible first | exact HB.out | apply below_alloc | apply pw_below_drewN | apply below_drew1) | exact HB.out)⟩
         ·rw [if_neg c39] at H
          have c39b0 : (t111 == t112) = false := by simpa using c39
          (try (have c39b1 : decide (t111 = t112) = false := by simpa using c39))
          (try (have c39b2 : (t111 == t112) = false := by simpa using c39))
          (try (have c39b3 : ¬ (t111 = t112) := by simpa using c39))
          clear c39
          obtain rfl := Option.some.inj H
          go_wp2_with (first | ((with_reducible refine gate_callee (f := 19) rfl ?_); refine goesL_ (some 40) rfl rfl Tryd.func19 (by kernel_rfl) rfl #[.slice A0 l0.length c0, .string a1, .bool a2, .bool a3] rfl (by (try simp only [List.map_toArray, List.map_cons, List.map_nil]); first | done | rfl | (simp only [List.length_drop, List.length_take]; rfl)) ?_; (with_reducible refine (rules_Act.calls k2 _ _ l0 a1 a2 a3 t107 _ ?side1 ?side2 A31.out).mono ?_); (case side1 => repeat (first | exact (Kd.C_below HR0.out HB.out) | (with_reducible refine Kd.C_alloc ?_ _) | (with_reducible refine Kd.C_drewN ?_ _) | (with_reducible refine Kd.C_drew ?_))); (case side2 => exact HC0.out); rintro e w48 ⟨rfl, hb⟩; refine ⟨_, rfl, ?_⟩; have n0_ := Aside0.mk (below_step (by repeat (first | (with_reducible first | exact HB.out | apply below_alloc | apply pw_below_drewN | apply below_drew1) | exact HB.out)) hb); clear HB; have HB := n0_; clear n0_; (try clear hb); (try clear hb2); (try clear hk); (try clear hi)) | ((with_reducible refine gate_callee (f := 20) rfl ?_); refine goesL_ (some 45) rfl rfl Tryd.func20 (by kernel_rfl) rfl #[.slice A0 l0.length c0, .string a1, .bool a2, .bool a3] rfl (by (try simp only [List.map_toArray, List.map_cons, List.map_nil]); first | done | rfl | (simp only [List.length_drop, List.length_take]; rfl)) ?_; (with_reducible refine (remoraref15_Act.calls k2 _ _ l0 a1 a2 a3 t108 _ ?side1 ?side2 A32.out).mono ?_); (case side1 => repeat (first | exact (Kd.C_below HR0.out HB.out) | (with_reducible refine Kd.C_alloc ?_ _) | (with_reducible refine Kd.C_drewN ?_ _) | (with_reducible refine Kd.C_drew ?_))); (case side2 => exact HC0.out); rintro e w49 ⟨rfl, hb⟩; refine ⟨_, rfl, ?_⟩; have n0_ := Aside0.mk (below_step (by repeat (first | (with_reducible first | exact HB.out | apply below_alloc | apply pw_below_drewN | apply below_drew1) | exact HB.out)) hb); clear HB; have HB := n0_; clear n0_; (try clear hb); (try clear hb2); (try clear hk); (try clear hi)) | (go_at_call 21; (with_reducible refine (rules_Hidden.calls k2 _ _ l0 a1 a2 t109 _ ?side1 ?side2 A34.out).mono ?_); (case side1 => repeat (first | exact (Kd.C_below HR0.out HB.out) | (with_reducible refine Kd.C_alloc ?_ _) | (with_reducible refine Kd.C_drewN ?_ _) | (with_reducible refine Kd.C_drew ?_))); (case side2 => exact HC0.out); rintro e w50 ⟨rfl, hb⟩; have n0_ := Aside0.mk (below_step (by repeat (first | (with_reducible first | exact HB.out | apply below_alloc | apply pw_below_drewN | apply below_drew1) | exact HB.out)) hb); clear HB; have HB := n0_; clear n0_; (try clear hb); (try clear hb2); (try clear hk); (try clear hi)) | (go_at_call 22; (with_reducible refine (remoraref15_Hidden.calls k2 _ _ l0 a1 a2 t110 _ ?side1 ?side2 A35.out).mono ?_); (case side1 => repeat (first | exact (Kd.C_below HR0.out HB.out) | (with_reducible refine Kd.C_alloc ?_ _) | (with_reducible refine Kd.C_drewN ?_ _) | (with_reducible refine Kd.C_drew ?_))); (case side2 => exact HC0.out); rintro e w51 ⟨rfl, hb⟩; have n0_ := Aside0.mk (below_step (by repeat (first | (with_reducible first | exact HB.out | apply below_alloc | apply pw_below_drewN | apply below_drew1) | exact HB.out)) hb); clear HB; have HB := n0_; clear n0_; (try clear hb); (try clear hb2); (try clear hk); (try clear hi)) | (go_at_call 23; (with_reducible refine (rules_Safe.calls k2 _ _ l0 a1 a2 t111 _ ?side1 ?side2 A37.out).mono ?_); (case side1 => repeat (first | exact (Kd.C_below HR0.out HB.out) | (with_reducible refine Kd.C_alloc ?_ _) | (with_reducible refine Kd.C_drewN ?_ _) | (with_reducible refine Kd.C_drew ?_))); (case side2 => exact HC0.out); rintro e w52 ⟨rfl, hb⟩; have n0_ := Aside0.mk (below_step (by repeat (first | (with_reducible first | exact HB.out | apply below_alloc | apply pw_below_drewN | apply below_drew1) | exact HB.out)) hb); clear HB; have HB := n0_; clear n0_; (try clear hb); (try clear hb2); (try clear hk); (try clear hi)) | (go_at_call 24; (with_reducible refine (remoraref15_Safe.calls k2 _ _ l0 a1 a2 t112 _ ?side1 ?side2 A38.out).mono ?_); (case side1 => repeat (first | exact (Kd.C_below HR0.out HB.out) | (with_reducible refine Kd.C_alloc ?_ _) | (with_reducible refine Kd.C_drewN ?_ _) | (with_reducible refine Kd.C_drew ?_))); (case side2 => exact HC0.out); rintro e w53 ⟨rfl, hb⟩; have n0_ := Aside0.mk (below_step (by repeat (first | (with_reducible first | exact HB.out | apply below_alloc | apply pw_below_drewN | apply below_drew1) | exact HB.out)) hb); clear HB; have HB := n0_; clear n0_; (try clear hb); (try clear hb2); (try clear hk); (try clear hi)))
          go_ret
          exact ⟨by first | rfl | (simp [errW_none, errW_some] <;> rfl) | (simp [*, errW_none, errW_some] <;> rfl), by repeat (first | (with_reducible first | exact HB.out | apply below_alloc | apply pw_below_drewN | apply below_drew1) | exact HB.out)⟩
        ·rw [if_neg c36] at H
         have c36b0 : (t109 == t110) = false := by simpa using c36
         (try (have c36b1 : decide (t109 = t110) = false := by simpa using c36))
         (try (have c36b2 : (t109 == t110) = false := by simpa using c36))
         (try (have c36b3 : ¬ (t109 = t110) := by simpa using c36))
         clear c36
         obtain rfl := Option.some.inj H
         go_wp2_with (first | ((with_reducible refine gate_callee (f := 19) rfl ?_); refine goesL_ (some 40) rfl rfl Tryd.func19 (by kernel_rfl) rfl #[.slice A0 l0.length c0, .string a1, .bool a2, .bool a3] rfl (by (try simp only [List.map_toArray, List.map_cons, List.map_nil]); first | done | rfl | (simp only [List.length_drop, List.length_take]; rfl)) ?_; (with_reducible refine (rules_Act.calls k2 _ _ l0 a1 a2 a3 t107 _ ?side1 ?side2 A31.out).mono ?_); (case side1 => repeat (first | exact (Kd.C_below HR0.out HB.out) | (with_reducible refine Kd.C_alloc ?_ _) | (with_reducible refine Kd.C_drewN ?_ _) | (with_reducible refine Kd.C_drew ?_))); (case side2 => exact HC0.out); rintro e w54 ⟨rfl, hb⟩; refine ⟨_, rfl, ?_⟩; have n0_ := Aside0.mk (below_step (by repeat (first | (with_reducible first | exact HB.out | apply below_alloc | apply pw_below_drewN | apply below_drew1) | exact HB.out)) hb); clear HB; have HB := n0_; clear n0_; (try clear hb); (try clear hb2); (try clear hk); (try clear hi)) | ((with_reducible refine gate_callee (f := 20) rfl ?_); refine goesL_ (some 45) rfl rfl Tryd.func20 (by kernel_rfl) rfl #[.slice A0 l0.length c0, .string a1, .bool a2, .bool a3] rfl (by (try simp only [List.map_toArray, List.map_cons, List.map_nil]); first | done | rfl | (simp only [List.length_drop, List.length_take]; rfl)) ?_; (with_reducible refine (remoraref15_Act.calls k2 _ _ l0 a1 a2 a3 t108 _ ?side1 ?side2 A32.out).mono ?_); (case side1 => repeat (first | exact (Kd.C_below HR0.out HB.out) | (with_reducible refine Kd.C_alloc ?_ _) | (with_reducible refine Kd.C_drewN ?_ _) | (with_reducible refine Kd.C_drew ?_))); (case side2 => exact HC0.out); rintro e w55 ⟨rfl, hb⟩; refine ⟨_, rfl, ?_⟩; have n0_ := Aside0.mk (below_step (by repeat (first | (with_reducible first | exact HB.out | apply below_alloc | apply pw_below_drewN | apply below_drew1) | exact HB.out)) hb); clear HB; have HB := n0_; clear n0_; (try clear hb); (try clear hb2); (try clear hk); (try clear hi)) | (go_at_call 21; (with_reducible refine (rules_Hidden.calls k2 _ _ l0 a1 a2 t109 _ ?side1 ?side2 A34.out).mono ?_); (case side1 => repeat (first | exact (Kd.C_below HR0.out HB.out) | (with_reducible refine Kd.C_alloc ?_ _) | (with_reducible refine Kd.C_drewN ?_ _) | (with_reducible refine Kd.C_drew ?_))); (case side2 => exact HC0.out); rintro e w56 ⟨rfl, hb⟩; have n0_ := Aside0.mk (below_step (by repeat (first | (with_reducible first | exact HB.out | apply below_alloc | apply pw_below_drewN | apply below_drew1) | exact HB.out)) hb); clear HB; have HB := n0_; clear n0_; (try clear hb); (try clear hb2); (try clear hk); (try clear hi)) | (go_at_call 22; (with_reducible refine (remoraref15_Hidden.calls k2 _ _ l0 a1 a2 t110 _ ?side1 ?side2 A35.out).mono ?_); (case side1 => repeat (first | exact (Kd.C_below HR0.out HB.out) | (with_reducible refine Kd.C_alloc ?_ _) | (with_reducible refine Kd.C_drewN ?_ _) | (with_reducible refine Kd.C_drew ?_))); (case side2 => exact HC0.out); rintro e w57 ⟨rfl, hb⟩; have n0_ := Aside0.mk (below_step (by repeat (first | (with_reducible first | exact HB.out | apply below_alloc | apply pw_below_drewN | apply below_drew1) | exact HB.out)) hb); clear HB; have HB := n0_; clear n0_; (try clear hb); (try clear hb2); (try clear hk); (try clear hi)))
         go_ret
         exact ⟨by first | rfl | (simp [errW_none, errW_some] <;> rfl) | (simp [*, errW_none, errW_some] <;> rfl), by repeat (first | (with_reducible first | exact HB.out | apply below_alloc | apply pw_below_drewN | apply below_drew1) | exact HB.out)⟩
       ·rw [if_neg c33] at H
        have c33b0 : (t107 == t108) = false := beq_eq_false_iff_ne.mpr c33
        have c33b1 : (t107 != t108) = true := bne_iff_ne.mpr c33
        obtain rfl := Option.some.inj H
        go_wp2_with (first | ((with_reducible refine gate_callee (f := 19) rfl ?_); refine goesL_ (some 40) rfl rfl Tryd.func19 (by kernel_rfl) rfl #[.slice A0 l0.length c0, .string a1, .bool a2, .bool a3] rfl (by (try simp only [List.map_toArray, List.map_cons, List.map_nil]); first | done | rfl | (simp only [List.length_drop, List.length_take]; rfl)) ?_; (with_reducible refine (rules_Act.calls k2 _ _ l0 a1 a2 a3 t107 _ ?side1 ?side2 A31.out).mono ?_); (case side1 => repeat (first | exact (Kd.C_below HR0.out HB.out) | (with_reducible refine Kd.C_alloc ?_ _) | (with_reducible refine Kd.C_drewN ?_ _) | (with_reducible refine Kd.C_drew ?_))); (case side2 => exact HC0.out); rintro e w58 ⟨rfl, hb⟩; refine ⟨_, rfl, ?_⟩; have n0_ := Aside0.mk (below_step (by repeat (first | (with_reducible first | exact HB.out | apply below_alloc | apply pw_below_drewN | apply below_drew1) | exact HB.out)) hb); clear HB; have HB := n0_; clear n0_; (try clear hb); (try clear hb2); (try clear hk); (try clear hi)) | ((with_reducible refine gate_callee (f := 20) rfl ?_); refine goesL_ (some 45) rfl rfl Tryd.func20 (by kernel_rfl) rfl #[.slice A0 l0.length c0, .string a1, .bool a2, .bool a3] rfl (by (try simp only [List.map_toArray, List.map_cons, List.map_nil]); first | done | rfl | (simp only [List.length_drop, List.length_take]; rfl)) ?_; (with_reducible refine (remoraref15_Act.calls k2 _ _ l0 a1 a2 a3 t108 _ ?side1 ?side2 A32.out).mono ?_); (case side1 => repeat (first | exact (Kd.C_below HR0.out HB.out) | (with_reducible refine Kd.C_alloc ?_ _) | (with_reducible refine Kd.C_drewN ?_ _) | (with_reducible refine Kd.C_drew ?_))); (case side2 => exact HC0.out); rintro e w59 ⟨rfl, hb⟩; refine ⟨_, rfl, ?_⟩; have n0_ := Aside0.mk (below_step (by repeat (first | (with_reducible first | exact HB.out | apply below_alloc | apply pw_below_drewN | apply below_drew1) | exact HB.out)) hb); clear HB; have HB := n0_; clear n0_; (try clear hb); (try clear hb2); (try clear hk); (try clear hi)))
        go_ret
        exact ⟨by first | rfl | (simp [errW_none, errW_some] <;> rfl) | (simp [*, errW_none, errW_some] <;> rfl), by repeat (first | (with_reducible first | exact HB.out | apply below_alloc | apply pw_below_drewN | apply below_drew1) | exact HB.out)⟩
end Go.Proofs.YtioehkeocddniaaDoor.PA
namespace Go.Proofs.YtioehkeocddniaaDoor.PA
open Go.RowKit Go.Proofs.YtioehkeocddniaaDoorW.PrintWords Go.Proofs.YtioehkeocddniaaDoorW.PrintLast Go.Proofs.YtioehkeocddniaaDoorW.PrintMore
attribute [local go_sem] max2_int min2_int max_two min_two max_three min_three max_four min_four
set_option linter.unusedVariables false
set_option linter.unusedSimpArgs false
theorem awake15 : remoralaw15_awake.f = some true := rfl
end Go.Proofs.YtioehkeocddniaaDoor.PA
namespace Go.Proofs.YtioehkeocddniaaDoor.PA
open Go.RowKit Go.Proofs.YtioehkeocddniaaDoorW.PrintWords Go.Proofs.YtioehkeocddniaaDoorW.PrintLast Go.Proofs.YtioehkeocddniaaDoorW.PrintMore
attribute [local go_sem] max2_int min2_int max_two min_two max_three min_three max_four min_four
set_option linter.unusedVariables false
set_option linter.unusedSimpArgs false
theorem bulk_pos {H : Type} : ∀ d : DataW H, 1 ≤ Rows.uptoBulk d
 | .lit (.string b) => by simp [Rows.uptoBulk]
 | .lit (.int _ _) => by simp [Rows.uptoBulk]
 | .lit (.bool _) => by simp [Rows.uptoBulk]
 | .lit (.float _ _) => by simp [Rows.uptoBulk]
 | .lit .nil => by simp [Rows.uptoBulk]
 | .nil => by simp [Rows.uptoBulk]
 | .ptr d => by simp [Rows.uptoBulk]
 | .slice _ _ => by simp [Rows.uptoBulk]
 | .agg _ => by simp [Rows.uptoBulk]
 | .iface _ _ => by simp [Rows.uptoBulk]
 | .map _ => by simp [Rows.uptoBulk]
 | .held _ => by simp [Rows.uptoBulk]
theorem bulk_len {H : Type} : ∀ l : List (DataW H), l.length ≤ Rows.uptoBulkAll l
 | [] => by simp [Rows.uptoBulkAll]
 | d :: r => by
  have h1 := bulk_pos d
  have h2 := bulk_len r
  simp only [List.length_cons, Rows.uptoBulkAll]
  omega
theorem bulk_mem {H : Type} : ∀ (l : List (DataW H)) (d : DataW H), d ∈ l → Rows.uptoBulk d ≤ Rows.uptoBulkAll l
 | [], d, h => by simp at h
 | e :: r, d, h => by
  simp only [Rows.uptoBulkAll]
  rcases List.mem_cons.1 h with rfl | h
  ·omega
  ·have := bulk_mem r d h
   omega
structure Opn {α : Type} (P : Program) (t : TypeId) (d : Kd α) (wf : Nat → α → Prop) : Prop where
 sz : d.sz = P.cellsOf t
 mono : ∀ n m a, n ≤ m → wf n a → wf m a
 op : ∀ {H : Type} (enc : TypeId × Value → H) (w : World) (base : Nat) (spare : Nat → Bool) (held : Bool) (fuel : Nat) (cs : List Value) (x : DataW H × List MemPlace), DataW.trod enc P w base spare held fuel t cs = some x → ∃ a, d.K w a cs ∧ wf (Rows.uptoBulk x.1) a
section
variable {P : Program} {t : TypeId}
theorem opn_int {k : IntKind} (ht : P.underlying t = some (.int k)) (hs : P.cellsOf t = 1) : Opn P t (Kd.int k) (fun _ a => (Lit.int k a).wf = true) where
 sz := hs.symm
 mono := fun _ _ _ _ h => h
 op := fun enc w base spare held fuel cs x h => by
  obtain ⟨n, rfl, rfl, hw⟩ := DataW.trod_int ht h
  exact ⟨n, rfl, hw⟩
theorem opn_bool (ht : P.underlying t = some .bool) (hs : P.cellsOf t = 1) : Opn P t Kd.bool (fun _ _ => True) where
 sz := hs.symm
 mono := fun _ _ _ _ h => h
 op := fun enc w base spare held fuel cs x h => by
  obtain ⟨n, rfl, rfl⟩ := DataW.trod_bool ht h
  exact ⟨n, rfl, trivial⟩
theorem opn_string (ht : P.underlying t = some .string) (hs : P.cellsOf t = 1) : Opn P t Kd.string (fun n s => s.size < n ∧ s.size ≤ maxLen) where
 sz := hs.symm
 mono := fun _ _ _ h h' => ⟨Nat.lt_of_lt_of_le h'.1 h, h'.2⟩
 op := fun enc w base spare held fuel cs x h => by
  obtain ⟨s, rfl, rfl, hw⟩ := DataW.trod_string ht h
  refine ⟨s, rfl, ?_, hw⟩
  simp [Rows.uptoBulk]
theorem cells_get {w : World} {base : Nat} {a : Addr} {n : Nat} {cs : List Value} (h : w.cells? base a n = some cs) : cs.length = n ∧ ∀ i u, cs[i]? = some u → w.cell? (a.add i) = some u := by
 unfold World.cells? at h
 split at h
 ·refine ⟨by simpa using mapM_some_length h, fun i u hu => ?_⟩
  have hl := mapM_some_length h
  have hi : i < cs.length := (List.getElem?_eq_some_iff.1 hu).1
  have := mapM_some_get h i i (by rw [List.getElem?_range]; simp at hl; omega)
  rw [this, hu]
 ·cases h
theorem add_add (a : Addr) (i j : Nat) : (a.add i).add j = a.add (i + j) := by
 unfold Addr.add
 by_cases hi : i = 0 <;> by_cases hj : j = 0 <;> simp [hi, hj, Nat.add_assoc]
theorem opn_slice {α : Type} {e : TypeId} {d : Kd α} {wf : Nat → α → Prop} (ht : P.underlying t = some (.slice e)) (hs : P.cellsOf t = 1) (O : Opn P e d wf) :
  Opn P t (Kd.slice e d) (fun n xs => xs.length < n ∧ ∀ a ∈ xs, wf n a) where
 sz := hs.symm
 mono := fun n m a h h' => ⟨Nat.lt_of_lt_of_le h'.1 h, fun x hx => O.mono n m x h (h'.2 x hx)⟩
 op := fun enc w base spare held fuel cs x h => by
  rcases DataW.trod_slice ht h with ⟨rfl, rfl⟩ | ⟨a, len, cap, elems, rest, n, _, rfl, rfl, hb, hl, hm, hlen, hel, hsp, hns⟩
  ·exact ⟨[], ⟨none, 0, rfl, Nat.le_refl _, Kd.C_nil _ _⟩, by simp [Rows.uptoBulk], by simp⟩
  ·have each : ∀ i, i < len → ∃ y, elems[i]? = some y ∧ ∃ cs', w.cells? base (a.add (i * P.cellsOf e)) (P.cellsOf e) = some cs' ∧ ∃ v, d.K w v cs' ∧ wf (Rows.uptoBulk y.1) v := by
    intro i hi
    have h1 := hel i hi
    have h2 : elems[i]? = some (elems[i]'(by omega)) := List.getElem?_eq_getElem (by omega)
    rw [h2, Option.bind_eq_some_iff] at h1
    obtain ⟨cs', hc, ht'⟩ := h1
    obtain ⟨v, hv, hw⟩ := O.op enc w base spare held n cs' _ ht'
    exact ⟨_, h2, cs', hc, v, hv, hw⟩
   have ex : ∀ m, m ≤ len → ∃ xs : List α, xs.length = m ∧ ∀ i v, xs[i]? = some v → ∃ y, elems[i]? = some y ∧ ∃ cs', w.cells? base (a.add (i * P.cellsOf e)) (P.cellsOf e) = some cs' ∧ d.K w v cs' ∧ wf (Rows.uptoBulk y.1) v := by
    intro m
    induction m with
    | zero => exact fun _ => ⟨[], rfl, by simp⟩
    | succ m ih =>
     intro hm'
     obtain ⟨xs, hx, hg⟩ := ih (by omega)
     obtain ⟨y, hy, cs', hc, v, hv, hw⟩ := each m (by omega)
     refine ⟨xs ++ [v], by simp [hx], fun i u hu => ?_⟩
     by_cases hi : i < xs.length
     ·rw [List.getElem?_append_left hi] at hu
      exact hg i u hu
     ·rw [List.getElem?_append_right (by omega)] at hu
      have hi' : i = m := by
       have := (List.getElem?_eq_some_iff.1 hu).1
       simp at this
       omega
      subst hi'
      rw [hx, Nat.sub_self] at hu
      have : v = u := by simpa using hu
      subst this
      exact ⟨y, hy, cs', hc, hv, hw⟩
   obtain ⟨xs, hx, hg⟩ := ex len (Nat.le_refl _)
   have htot : Rows.uptoBulkAll (elems.map (·.1)) + 1 ≤ Rows.uptoBulk (DataW.slice (elems.map (·.1)) (rest.map (·.1))) := by
    simp only [Rows.uptoBulk]
    omega
   refine ⟨xs, ⟨some a, cap, by rw [hx], by omega, ⟨rfl, by unfold maxLen at hm; omega, fun _ => ⟨a, rfl, fun j p hp => ?_⟩⟩⟩, ?_, ?_⟩
   ·obtain ⟨y, hy, cs', hc, hk, hw⟩ := hg j p hp
    obtain ⟨g1, g2⟩ := cells_get hc
    refine ⟨cs', by rw [g1, O.sz], hk, fun i u hu => ?_⟩
    have := g2 i u hu
    rw [add_add] at this
    rw [O.sz]
    exact this
   ·have h1 := bulk_len (elems.map (·.1))
    simp only [List.length_map, hlen] at h1
    rw [hx]
    exact Nat.lt_of_lt_of_le (Nat.lt_succ_of_le h1) htot
   ·intro v hv
    obtain ⟨i, hi⟩ := List.getElem?_of_mem hv
    obtain ⟨y, hy, _, _, _, hw⟩ := hg i v hi
    refine O.mono _ _ _ ?_ hw
    have hmem : y.1 ∈ elems.map (·.1) := List.mem_map_of_mem (List.mem_of_getElem? hy)
    exact Nat.le_trans (bulk_mem _ _ hmem) (Nat.le_of_succ_le htot)
def OpnF {α : Type} (P : Program) (fs : List Field) (o : Nat) (d : Kd α) (wf : Nat → α → Prop) : Prop :=
 (∀ n m a, n ≤ m → wf n a → wf m a) ∧
 ∀ {H : Type} (enc : TypeId × Value → H) (w : World) (base : Nat) (spare : Nat → Bool) (held : Bool) (fuel : Nat) (cs : List Value) (ys : List (DataW H × List MemPlace)) (N : Nat),
  (∀ (i : Nat) (f : Field), fs[i]? = some f → ∃ y, ys[i]? = some y ∧ Rows.uptoBulk y.1 ≤ N ∧ DataW.trod enc P w base spare held fuel f.type ((cs.drop f.offset).take (P.cellsOf f.type)) = some y) →
  ∃ a, d.K w a ((cs.drop o).take d.sz) ∧ wf N a
theorem opnF_one {α : Type} {d : Kd α} {wf : Nat → α → Prop} {f : Field} {o : Nat} (ho : f.offset = o) (O : Opn P f.type d wf) : OpnF P [f] o d wf := by
 refine ⟨O.mono, fun enc w base spare held fuel cs ys N h => ?_⟩
 obtain ⟨y, hy, hN, ht⟩ := h 0 f rfl
 obtain ⟨a, ha, hw⟩ := O.op enc w base spare held fuel _ y ht
 refine ⟨a, ?_, O.mono _ _ _ hN hw⟩
 rw [O.sz, ← ho]
 exact ha
theorem opnF_cons {α β : Type} {d : Kd α} {d' : Kd β} {wf : Nat → α → Prop} {wf' : Nat → β → Prop} {f : Field} {fs : List Field} {o o' : Nat} (ho : f.offset = o) (O : Opn P f.type d wf) (he : o' = o + d.sz) (F : OpnF P fs o' d' wf') :
  OpnF P (f :: fs) o (Kd.pair d d') (fun n x => wf n x.1 ∧ wf' n x.2) := by
 refine ⟨fun n m a h h' => ⟨O.mono _ _ _ h h'.1, F.1 _ _ _ h h'.2⟩, fun enc w base spare held fuel cs ys N h => ?_⟩
 obtain ⟨y, hy, hN, ht⟩ := h 0 f rfl
 obtain ⟨a, ha, hw⟩ := O.op enc w base spare held fuel _ y ht
 obtain ⟨b, hb, hw'⟩ := F.2 enc w base spare held fuel cs (ys.drop 1) N (fun i g hg => by
  obtain ⟨z, hz, h1, h2⟩ := h (i + 1) g (by simpa using hg)
  refine ⟨z, ?_, h1, h2⟩
  rw [List.getElem?_drop, Nat.add_comm]
  exact hz)
 refine ⟨(a, b), ⟨(cs.drop o).take d.sz, (cs.drop o').take d'.sz, ?_, ?_, hb⟩, O.mono _ _ _ hN hw, hw'⟩
 ·show (cs.drop o).take (d.sz + d'.sz) = _
  rw [List.take_add, List.drop_drop, he]
 ·rw [O.sz, ← ho]
  exact ha
theorem opn_struct {α β : Type} {fs : Array Field} {d : Kd α} {wf : Nat → α → Prop} (f : β → α) (g : α → β) (hfg : ∀ a, f (g a) = a) (ht : P.underlying t = some (.struct fs)) (F : OpnF P fs.toList 0 d wf) (hs : d.sz = P.cellsOf t) :
  Opn P t (Kd.iso d f) (fun n x => wf n (f x)) where
 sz := hs
 mono := fun n m a h h' => F.1 n m (f a) h h'
 op := fun enc w base spare held fuel cs x h => by
  obtain ⟨xs, n, rfl, rfl, hl, hlen, hf⟩ := DataW.trod_struct ht h
  obtain ⟨a, ha, hw⟩ := F.2 enc w base spare held n cs xs (Rows.uptoBulk (DataW.agg (xs.map (·.1)))) (fun i q hq => by
   have h1 := hf i q (by simpa using hq)
   have hi : i < xs.length := by
    have := (List.getElem?_eq_some_iff.1 hq).1
    simp at this
    omega
   rw [List.getElem?_eq_getElem hi] at h1
   refine ⟨_, List.getElem?_eq_getElem hi, ?_, h1⟩
   have hmem : (xs[i]).1 ∈ xs.map (·.1) := List.mem_map_of_mem (List.getElem_mem hi)
   have := bulk_mem _ _ hmem
   simp only [Rows.uptoBulk]
   omega)
  refine ⟨g a, ?_, by rw [hfg]; exact hw⟩
  show d.K w (f (g a)) cs
  rw [hfg]
  rw [List.drop_zero, hs, ← hl, List.take_length] at ha
  exact ha
end
end Go.Proofs.YtioehkeocddniaaDoor.PA
namespace Go.Proofs.YtioehkeocddniaaDoor.PA
open Go.RowKit Go.Proofs.YtioehkeocddniaaDoorW.PrintWords Go.Proofs.YtioehkeocddniaaDoorW.PrintLast Go.Proofs.YtioehkeocddniaaDoorW.PrintMore
attribute [local go_sem] max2_int min2_int max_two min_two max_three min_three max_four min_four
set_option linter.unusedVariables false
set_option linter.unusedSimpArgs false
def partB (s : ByteArray) : Bool := !(s.toList == []) && decide ((s.size : Int) ≤ 48) && !(s.toList == [46]) && !(s.toList == [46, 46]) && decide (Lib.indexByte s.data.toList 0 < 0)
theorem part_f (s : ByteArray) : path_part.f s = some (partB s) := by
 unfold path_part.f partB
 by_cases h1 : s.toList = ([] : List UInt8)
 ·rw [if_pos h1, beq_iff_eq.mpr h1]
  rfl
 ·rw [if_neg h1, beq_eq_false_iff_ne.mpr h1]
  by_cases h2 : (s.size : Int) ≤ 48
  ·rw [if_pos h2, decide_eq_true h2]
   by_cases h3 : s.toList = ([46] : List UInt8)
   ·rw [if_pos h3, beq_iff_eq.mpr h3]
    rfl
   ·rw [if_neg h3, beq_eq_false_iff_ne.mpr h3]
    by_cases h4 : s.toList = ([46, 46] : List UInt8)
    ·rw [if_pos h4, beq_iff_eq.mpr h4]
     rfl
    ·rw [if_neg h4, beq_eq_false_iff_ne.mpr h4]
     rfl
  ·rw [if_neg h2, decide_eq_false h2]
   rfl
def rightB (p : ByteArray) : Bool := (splitL p).all partB && decide (((splitL p).length : Int) ≤ 12) && decide ((p.size : Int) ≤ 200)
theorem right_l (p : ByteArray) (l : List ByteArray) (hl : l.length < 9223372036854775807) : ∀ k j : Nat, j ≤ l.length → l.length - j < k → path_Right.l0 k p l l (l.length : Int) (j : Int) = some ((l.drop j).all partB && decide ((l.length : Int) ≤ 12) && decide ((p.size : Int) ≤ 200))
 | 0, j, _, h => by omega
 | k + 1, j, hj, h => by
  unfold path_Right.l0
  by_cases hlt : j < l.length
  ·rw [if_pos (show (j : Int) < (l.length : Int) by omega), if_pos (show 0 ≤ (j : Int) by omega), if_pos (show (j : Int) < (l.length : Int) by omega), part_f]
   have e : rdOf ByteArray.empty l (j : Int) = l[j]'hlt := by
    simp [rdOf, hlt]
   rw [e, List.drop_eq_getElem_cons hlt]
   show (if partB (l[j]'hlt) = true then _ else _) = _
   cases hp : partB (l[j]'hlt) with
   | true =>
    rw [if_pos rfl, wr64 _ (by omega) (by omega)]
    have ih := right_l p l hl k (j + 1) (by omega) (by omega)
    rw [show ((j : Int) + 1) = ((j + 1 : Nat) : Int) by omega, ih, List.all_cons, hp, Bool.true_and]
   | false =>
    rw [if_neg (by decide), List.all_cons, hp]
    rfl
  ·have hje : j = l.length := by omega
   rw [if_neg (show ¬ (j : Int) < (l.length : Int) by omega), hje, List.drop_length]
   by_cases h12 : (l.length : Int) ≤ 12
   ·rw [if_pos h12, decide_eq_true h12]
    rfl
   ·rw [if_neg h12, decide_eq_false h12]
    rfl
theorem splitL_len (s : ByteArray) : (splitL s).length ≤ s.size + 1 := by
 have := splitTo_len s s.size
 unfold splitL
 split
 ·exact Nat.zero_le _
 ·simp
  omega
theorem right_f (p : ByteArray) (hs : p.size < 4398046511104) (k : Nat) (hk : p.size + 1 < k) : path_Right.f k p = some (rightB p) := by
 unfold path_Right.f path_Split.f
 rw [if_pos hs]
 have h := splitL_len p
 show path_Right.l0 k p (splitL p) (splitL p) ((splitL p).length : Int) 0 = _
 exact right_l p (splitL p) (by omega) k 0 (by omega) (by omega)
end Go.Proofs.YtioehkeocddniaaDoor.PA
namespace Go.Proofs.YtioehkeocddniaaDoor.PA
open Go.RowKit Go.Proofs.YtioehkeocddniaaDoorW.PrintWords Go.Proofs.YtioehkeocddniaaDoorW.PrintLast Go.Proofs.YtioehkeocddniaaDoorW.PrintMore
attribute [local go_sem] max2_int min2_int max_two min_two max_three min_three max_four min_four
set_option linter.unusedVariables false
set_option linter.unusedSimpArgs false
open Go.Shelf
def joinB (l0 : List ByteArray) (a1 : ByteArray) : ByteArray := ⟨(Lib.join (l0.map (·.data.toList)) a1.data.toList).toArray⟩
end Go.Proofs.YtioehkeocddniaaDoor.PA
namespace Go.Proofs.YtioehkeocddniaaDoor.PA
open Go.RowKit Go.Proofs.YtioehkeocddniaaDoorW.PrintWords Go.Proofs.YtioehkeocddniaaDoorW.PrintLast Go.Proofs.YtioehkeocddniaaDoorW.PrintMore
attribute [local go_sem] max2_int min2_int max_two min_two max_three min_three max_four min_four
set_option linter.unusedVariables false
set_option linter.unusedSimpArgs false
def spl : List UInt8 → List (List UInt8)
 | [] => [[]]
 | x :: t => if x = 47 then [] :: spl t else match spl t with
  | [] => [[x]]
  | h :: r => (x :: h) :: r
theorem spl_ne : ∀ s, spl s ≠ []
 | [] => by simp [spl]
 | x :: t => by
  rw [spl]
  split
  ·simp
  ·split <;> simp
theorem spl_cons (x : UInt8) (t : List UInt8) (h : x ≠ 47) : ∃ a r, spl t = a :: r ∧ spl (x :: t) = (x :: a) :: r := by
 cases hs : spl t with
 | nil => exact absurd hs (spl_ne t)
 | cons a r =>
  refine ⟨a, r, rfl, ?_⟩
  rw [spl, if_neg h, hs]
theorem spl_snoc47 : ∀ s, spl (s ++ [47]) = spl s ++ [[]]
 | [] => rfl
 | x :: t => by
  by_cases h : x = 47
  ·rw [List.cons_append, spl, if_pos h, spl, if_pos h, spl_snoc47 t, List.cons_append]
  ·obtain ⟨a, r, e1, e2⟩ := spl_cons x t h
   obtain ⟨a', r', e3, e4⟩ := spl_cons x (t ++ [47]) h
   rw [spl_snoc47 t, e1, List.cons_append] at e3
   rw [List.cons_append, e4, e2]
   have e5 := List.cons.inj e3
   rw [← e5.1, ← e5.2, List.cons_append]
theorem spl_snoc (c : UInt8) (hc : c ≠ 47) : ∀ (s : List UInt8) (L : List (List UInt8)) (x : List UInt8), spl s = L ++ [x] → spl (s ++ [c]) = L ++ [x ++ [c]]
 | [], L, x, h => by
  cases L with
  | nil =>
   have hx := (List.cons.inj (show ([[]] : List (List UInt8)) = [x] from h)).1
   rw [← hx]
   simp [spl, hc]
  | cons a r =>
   have h1 := (List.cons.inj (show ([[]] : List (List UInt8)) = a :: (r ++ [x]) from h)).2
   simp at h1
 | y :: t, L, x, h => by
  by_cases hy : y = 47
  ·rw [spl, if_pos hy] at h
   cases L with
   | nil =>
    have h1 := (List.cons.inj (show [] :: spl t = [x] from h)).2
    exact absurd h1 (spl_ne t)
   | cons a r =>
    have h1 := List.cons.inj (show [] :: spl t = a :: (r ++ [x]) from h)
    rw [List.cons_append, spl, if_pos hy, spl_snoc c hc t r x h1.2, h1.1]
    rfl
  ·obtain ⟨a, r, e1, e2⟩ := spl_cons y t hy
   rw [e2] at h
   cases L with
   | nil =>
    have h1 := List.cons.inj (show (y :: a) :: r = [x] from h)
    have h2 := spl_snoc c hc t [] a (by rw [e1, h1.2]; rfl)
    obtain ⟨a', r', e3, e4⟩ := spl_cons y (t ++ [c]) hy
    rw [h2] at e3
    have h3 := List.cons.inj (show [a ++ [c]] = a' :: r' from e3)
    rw [List.cons_append, e4, ← h3.1, ← h3.2, ← h1.1]
    rfl
   | cons b q =>
    have h1 := List.cons.inj (show (y :: a) :: r = b :: (q ++ [x]) from h)
    have h2 := spl_snoc c hc t (a :: q) x (by rw [e1, h1.2]; rfl)
    obtain ⟨a', r', e3, e4⟩ := spl_cons y (t ++ [c]) hy
    rw [h2] at e3
    have h3 := List.cons.inj (show a :: (q ++ [x ++ [c]]) = a' :: r' from e3)
    rw [List.cons_append, e4, ← h3.1, ← h3.2, ← h1.1]
    rfl
theorem join_two (x y : List UInt8) (r : List (List UInt8)) : Lib.join (x :: y :: r) [47] = x ++ 47 :: Lib.join (y :: r) [47] := by
 rw [Lib.join_cons, Lib.join_cons]
 simp [Lib.joinTail]
theorem join_spl : ∀ s, Lib.join (spl s) [47] = s
 | [] => rfl
 | x :: t => by
  have ih := join_spl t
  by_cases h : x = 47
  ·rw [spl, if_pos h]
   cases hs : spl t with
   | nil => exact absurd hs (spl_ne t)
   | cons a r => rw [join_two, ← hs, ih, h]; rfl
  ·obtain ⟨a, r, e1, e2⟩ := spl_cons x t h
   rw [e2]
   rw [e1] at ih
   cases r with
   | nil => rw [Lib.join_one] at ih ⊢; rw [ih]
   | cons b q => rw [join_two] at ih ⊢; rw [List.cons_append, ih]
def toL (a : ByteArray) : List UInt8 := a.data.toList
theorem toL_inj {a b : ByteArray} (h : toL a = toL b) : a = b := by
 have := Array.toList_inj.1 (show a.data.toList = b.data.toList from h)
 exact ByteArray.ext this
theorem toL_size (a : ByteArray) : (toL a).length = a.size := by
 rw [toL, Array.length_toList]; rfl
theorem toL_extract (a : ByteArray) (i j : Nat) : toL (a.extract i j) = ((toL a).take j).drop i := by
 unfold toL
 rw [ByteArray.data_extract, Array.toList_extract, List.extract_eq_take_drop, List.drop_take]
theorem take_snoc (a : ByteArray) (k : Nat) (h : k < a.size) : (toL a).take (k + 1) = (toL a).take k ++ [UInt8.ofNat (bt a (k : Int)).toNat] := by
 have hl : k < (toL a).length := by rw [toL_size]; exact h
 rw [List.take_succ_eq_append_getElem hl]
 congr 2
 rw [bt, dif_pos (by simpa using h)]
 simp [toL]
 rfl
theorem u47 (b : Int) (h0 : 0 ≤ b) (h1 : b ≤ 255) : UInt8.ofNat b.toNat = 47 ↔ b = 47 := by
 constructor
 ·intro h
  have := congrArg UInt8.toNat h
  rw [UInt8.toNat_ofNat'] at this
  have e : (47 : UInt8).toNat = 47 := rfl
  rw [e] at this
  omega
 ·intro h; rw [h]; rfl
theorem splitTo_spl (a : ByteArray) : ∀ k, k ≤ a.size → spl ((toL a).take k) = (splitTo a k).1.map toL ++ [((toL a).take k).drop (splitTo a k).2]
 | 0, _ => rfl
 | k + 1, h => by
  have ih := splitTo_spl a k (by omega)
  have hr := bt_range a (k : Int)
  have hle := splitTo_le a k
  have hlen : ((toL a).take k).length = k := by rw [List.length_take, toL_size]; omega
  rw [take_snoc a k (by omega)]
  by_cases hb : bt a (k : Int) = 47
  ·rw [(u47 _ hr.1 (by have := hr.2; omega)).2 hb, spl_snoc47, ih, splitTo_hit a k hb, List.map_append, List.map_cons, List.map_nil, toL_extract]
   congr 1
   simp
   omega
  ·rw [spl_snoc _ (fun e => hb ((u47 _ hr.1 (by have := hr.2; omega)).1 e)) _ _ _ ih, splitTo_miss a k hb, List.drop_append_of_le_length (by rw [hlen]; exact hle)]
theorem split_spl (a : ByteArray) (h : a.size ≠ 0) : (splitL a).map toL = spl (toL a) := by
 have := splitTo_spl a a.size (Nat.le_refl _)
 have e : (toL a).take a.size = toL a := List.take_of_length_le (by rw [toL_size]; exact Nat.le_refl _)
 rw [e] at this
 rw [splitL, if_neg h, this, List.map_append, List.map_cons, List.map_nil, toL_extract, e]
theorem size_zero {a : ByteArray} (h : a.size = 0) : a = ⟨#[]⟩ := by
 apply toL_inj
 have : (toL a).length = 0 := by rw [toL_size]; exact h
 rw [List.length_eq_zero_iff.1 this]
 rfl
theorem toL_joinB (l : List ByteArray) : toL (joinB l ⟨#[47]⟩) = Lib.join (l.map toL) [47] := by
 unfold joinB toL
 rfl
theorem joinB_split (a : ByteArray) : joinB (splitL a) ⟨#[47]⟩ = a := by
 by_cases h : a.size = 0
 ·rw [splitL, if_pos h, size_zero h]; rfl
 ·apply toL_inj
  rw [toL_joinB, split_spl a h, join_spl]
theorem split_nil_iff (a : ByteArray) : splitL a = [] ↔ a.size = 0 := by
 rw [splitL]
 by_cases h : a.size = 0
 ·rw [if_pos h]; simp [h]
 ·rw [if_neg h]; simp [h]
theorem joinB_to (a : ByteArray) (k : Nat) (hk : k ≤ a.size) (h : (splitTo a k).2 ≠ 0) : joinB (splitTo a k).1 ⟨#[47]⟩ = a.extract 0 ((splitTo a k).2 - 1) := by
 induction k with
 | zero => exact absurd rfl h
 | succ k ih =>
  by_cases hb : bt a (k : Int) = 47
  ·rw [splitTo_hit a k hb]
   apply toL_inj
   have hs := splitTo_spl a k (by omega)
   have := join_spl ((toL a).take k)
   rw [hs] at this
   rw [toL_joinB, List.map_append, List.map_cons, List.map_nil, toL_extract, this, toL_extract]
   simp
  ·rw [splitTo_miss a k hb] at h ⊢
   exact ih (by omega) h
end Go.Proofs.YtioehkeocddniaaDoor.PA
namespace Go.Proofs.YtioehkeocddniaaDoor.PA
open Go.RowKit Go.Proofs.YtioehkeocddniaaDoorW.PrintWords Go.Proofs.YtioehkeocddniaaDoorW.PrintLast Go.Proofs.YtioehkeocddniaaDoorW.PrintMore
attribute [local go_sem] max2_int min2_int max_two min_two max_three min_three max_four min_four
set_option linter.unusedVariables false
set_option linter.unusedSimpArgs false
theorem rsplit_l (s : ByteArray) (hs : s.size < 4398046511104) : ∀ k j : Nat, j ≤ s.size → s.size + 1 - j < k → remoraref13_Split.l0 k s (splitTo s j).1 ((splitTo s j).2 : Int) (j : Int) = some ((splitTo s s.size).1 ++ [s.extract (splitTo s s.size).2 s.size])
 | 0, j, _, h => by omega
 | k + 1, j, hj, h => by
  have hle := splitTo_le s j
  have hlen := splitTo_len s j
  have e2 : wrap64 ((j : Int) + 1) = ((j + 1 : Nat) : Int) := by rw [wr64 _ (by omega) (by omega)]; rfl
  unfold remoraref13_Split.l0
  rw [if_pos (show (j : Int) ≤ (s.size : Int) by omega), e2]
  by_cases hlt : j < s.size
  ·rw [if_neg (show ¬ (j : Int) = (s.size : Int) by omega), if_pos (show 0 ≤ (j : Int) by omega), if_pos (show (j : Int) < (s.size : Int) by omega)]
   by_cases hb : bt s (j : Int) = 47
   ·have hh := splitTo_hit s j hb
    rw [if_pos hb, if_pos (by omega), if_pos (by omega), if_pos (by omega)]
    have ih := rsplit_l s hs k (j + 1) (by omega) (by omega)
    rw [hh] at ih
    exact ih
   ·have hh := splitTo_miss s j hb
    rw [if_neg hb]
    have ih := rsplit_l s hs k (j + 1) (by omega) (by omega)
    rw [hh] at ih
    exact ih
  ·obtain rfl : j = s.size := by omega
   rw [if_pos rfl, if_pos (by omega), if_pos (by omega), if_pos (by omega)]
   cases k with
   | zero => omega
   | succ k =>
    unfold remoraref13_Split.l0
    rw [if_neg (by omega)]
    rfl
theorem rsplit_f (s : ByteArray) (hs : s.size < 4398046511104) (k : Nat) (hk : s.size + 1 < k) : remoraref13_Split.f k s = some (splitL s) := by
 unfold remoraref13_Split.f splitL
 by_cases h : s.toList = ([] : List UInt8)
 ·have h1 := congrArg List.length h
  rw [ByteArray.toList_eq, data_length] at h1
  rw [if_pos h, if_pos (show s.size = 0 from h1)]
 ·rw [if_neg h, if_neg]
  ·exact rsplit_l s hs k 0 (by omega) (by omega)
  ·intro h0
   refine h (List.eq_nil_of_length_eq_zero ?_)
   rw [ByteArray.toList_eq, data_length]
   exact h0
theorem index_ge (c : UInt8) : ∀ l : List UInt8, -1 ≤ Lib.indexByte l c
 | [] => Int.le_refl _
 | b :: l => by
  have := index_ge c l
  unfold Lib.indexByte
  split
  ·omega
  ·split
   ·omega
   ·omega
theorem rnought_l (s : ByteArray) (hs : s.size < 4398046511104) : ∀ k j : Nat, j ≤ s.size → s.size - j < k → remoraref13_nought.l0 k s (j : Int) = some (decide (0 ≤ Lib.indexByte (s.data.toList.drop j) 0))
 | 0, j, _, h => by omega
 | k + 1, j, hj, h => by
  unfold remoraref13_nought.l0
  by_cases hlt : j < s.size
  ·have e2 : wrap64 ((j : Int) + 1) = ((j + 1 : Nat) : Int) := by rw [wr64 _ (by omega) (by omega)]; rfl
   rw [if_pos (show (j : Int) < (s.size : Int) by omega), if_pos (show 0 ≤ (j : Int) by omega), e2]
   have hl : j < s.data.toList.length := by rw [data_length]; exact hlt
   rw [List.drop_eq_getElem_cons hl]
   have eb : bt s (j : Int) = ((s.data.toList[j]'hl).toNat : Int) := by
    rw [bt, dif_pos (by simpa using hlt)]
    simp
    rfl
   rw [eb]
   generalize s.data.toList[j]'hl = b
   have ih := rnought_l s hs k (j + 1) (by omega) (by omega)
   by_cases hb : b = 0
   ·subst hb
    rw [if_pos (by decide)]
    rfl
   ·rw [if_neg (by intro h0; exact hb (UInt8.toNat_inj.1 (by simpa using h0))), ih]
    have hg := index_ge 0 (s.data.toList.drop (j + 1))
    have e : Lib.indexByte (b :: s.data.toList.drop (j + 1)) 0 = if Lib.indexByte (s.data.toList.drop (j + 1)) 0 == -1 then -1 else Lib.indexByte (s.data.toList.drop (j + 1)) 0 + 1 := by
     rw [Lib.indexByte, if_neg (by simpa using hb)]
    rw [e]
    generalize Lib.indexByte (s.data.toList.drop (j + 1)) 0 = x at *
    by_cases hx : x = -1
    ·subst hx
     rfl
    ·rw [if_neg (by simpa using hx), decide_eq_true (show 0 ≤ x by omega), decide_eq_true (show 0 ≤ x + 1 by omega)]
  ·obtain rfl : j = s.size := by omega
   rw [if_neg (by omega), ← data_length, List.drop_length]
   rfl
theorem rnought_f (s : ByteArray) (hs : s.size < 4398046511104) (k : Nat) (hk : s.size < k) : remoraref13_nought.f k s = some (decide (0 ≤ Lib.indexByte s.data.toList 0)) := by
 unfold remoraref13_nought.f
 exact rnought_l s hs k 0 (by omega) (by omega)
end Go.Proofs.YtioehkeocddniaaDoor.PA
namespace Go.Proofs.YtioehkeocddniaaDoor.PA
open Go.RowKit Go.Proofs.YtioehkeocddniaaDoorW.PrintWords Go.Proofs.YtioehkeocddniaaDoorW.PrintLast Go.Proofs.YtioehkeocddniaaDoorW.PrintMore
attribute [local go_sem] max2_int min2_int max_two min_two max_three min_three max_four min_four
set_option linter.unusedVariables false
set_option linter.unusedSimpArgs false
theorem rdOf_get (l : List ByteArray) (i : Nat) (h : i < l.length) : rdOf ByteArray.empty l (i : Int) = l[i] := by
 simp [rdOf, h]
def sumS : List ByteArray → Nat
 | [] => 0
 | a :: t => a.size + sumS t
theorem sumS_app (a b : List ByteArray) : sumS (a ++ b) = sumS a + sumS b := by
 induction a with
 | nil => simp [sumS]
 | cons x t ih => simp only [List.cons_append, sumS, ih]; omega
theorem sumS_take (l : List ByteArray) (n : Nat) : sumS (l.take n) ≤ sumS l := by
 have := sumS_app (l.take n) (l.drop n)
 rw [List.take_append_drop] at this
 omega
theorem lens_sum (l : List ByteArray) : Lib.lens (l.map toL) = sumS l := by
 induction l with
 | nil => rfl
 | cons a t ih =>
  have := toL_size a
  simp only [Lib.lens, List.map_cons, List.sum_cons, sumS] at ih ⊢
  omega
theorem joinB_size (l : List ByteArray) : (joinB l ⟨#[47]⟩).size ≤ sumS l + l.length := by
 rw [← toL_size, toL_joinB]
 cases l with
 | nil => simp [Lib.join]
 | cons a t =>
  rw [List.map_cons, Lib.join_length, ← List.map_cons (f := toL), lens_sum]
  simp
  omega
theorem joinB_size' (l : List ByteArray) (h : l ≠ []) : (joinB l ⟨#[47]⟩).size + 1 = sumS l + l.length := by
 rw [← toL_size, toL_joinB]
 cases l with
 | nil => exact absurd rfl h
 | cons a t =>
  rw [List.map_cons, Lib.join_length, ← List.map_cons (f := toL), lens_sum]
  simp
  omega
theorem sumS_split (a : ByteArray) : sumS (splitL a) ≤ a.size := by
 by_cases h : splitL a = []
 ·rw [h]; exact Nat.zero_le _
 ·have h1 := joinB_size' _ h
  rw [joinB_split] at h1
  have : (splitL a).length ≠ 0 := fun e => h (List.length_eq_zero_iff.1 e)
  omega
def gN (l : List ByteArray) (i : Nat) : List Int := (Lib.join ((l.take i).map toL) [47]).map (fun u => (u.toNat : Int))
theorem strOf_nums (s : List UInt8) : strOfNums (s.map (fun u => (u.toNat : Int))) = ⟨s.toArray⟩ := by
 have e : ((fun n : Int => UInt8.ofNat n.toNat) ∘ fun u : UInt8 => (u.toNat : Int)) = id := by
  funext u
  simp
 rw [strOfNums, List.map_map, e, List.map_id]
theorem gN_zero (l : List ByteArray) : gN l 0 = [] := rfl
theorem gN_one (l : List ByteArray) (h : 0 < l.length) : gN l 1 = bytesOf (l[0]) := by
 cases l with
 | nil => simp at h
 | cons a t => simp [gN, Lib.join, bytesOf, toL]
theorem gN_succ (l : List ByteArray) (i : Nat) (h0 : 0 < i) (h : i < l.length) : gN l (i + 1) = gN l i ++ [47] ++ bytesOf (l[i]) := by
 cases l with
 | nil => simp at h
 | cons a t =>
  obtain ⟨j, rfl⟩ : ∃ j, i = j + 1 := ⟨i - 1, by omega⟩
  have ht : j < t.length := by simpa using h
  have hj := Lib.joinTail_take_succ [47] (t.map toL) j (toL (t[j])) (by simp [ht])
  simp only [gN, List.take_succ_cons, List.map_cons, Lib.join_cons, List.map_take] at hj ⊢
  rw [hj]
  simp [bytesOf, toL, List.map_append]
theorem gN_len (l : List ByteArray) (i : Nat) : (gN l i).length ≤ sumS l + l.length := by
 have h1 := joinB_size (l.take i)
 have h2 := sumS_take l i
 rw [← toL_size, toL_joinB] at h1
 have h3 : (l.take i).length ≤ l.length := by rw [List.length_take]; omega
 rw [gN, List.length_map]
 omega
theorem glue_l (l : List ByteArray) (hs : sumS l + l.length < 70368744177664) : ∀ (m i k : Nat), l.length - i = m → i ≤ l.length → m + 1 ≤ k → remoraref13_glue.l0 k l (gN l i) (i : Int) = some (joinB l ⟨#[47]⟩) := by
 intro m
 induction m with
 | zero =>
  intro i k hm hi hk
  obtain ⟨k, rfl⟩ : ∃ j, k = j + 1 := ⟨k - 1, by omega⟩
  obtain rfl : i = l.length := by omega
  rw [remoraref13_glue.l0, if_neg (by omega), gN, strOf_nums, List.take_length]
  rfl
 | succ m ih =>
  intro i k hm hi hk
  obtain ⟨k, rfl⟩ : ∃ j, k = j + 1 := ⟨k - 1, by omega⟩
  have hlt : i < l.length := by omega
  have hl := gN_len l i
  have hl2 := gN_len l (i + 1)
  have hrec := ih (i + 1) k (by omega) (by omega) (by omega)
  rw [remoraref13_glue.l0, if_pos (by omega), wr64 _ (by omega) (by omega), rdOf_get l i hlt]
  by_cases h0 : 0 < i
  ·rw [gN_succ l i h0 hlt] at hrec hl2
   have hb := bytesOf_length (l[i])
   rw [List.length_append, hb] at hl2
   rw [if_pos (by omega), if_pos (by omega), Option.bind_some, if_pos (by omega), if_pos (by omega)]
   exact hrec
  ·obtain rfl : i = 0 := by omega
   rw [gN_one l hlt] at hrec hl2
   have hb := bytesOf_length (l[0])
   rw [if_neg (by omega), if_pos (by omega), gN_zero, if_pos (by rw [List.length_nil]; omega)]
   exact hrec
theorem glue_f (l : List ByteArray) (hs : sumS l + l.length < 70368744177664) (k : Nat) (hk : l.length + 1 ≤ k) : remoraref13_glue.f k l = some (joinB l ⟨#[47]⟩) :=
 glue_l l hs l.length 0 k (by omega) (by omega) (by omega)
def sml (a : ByteArray) : Prop := a.size ≤ 1048576
theorem rsp_f (a : ByteArray) (h : sml a) (k : Nat) (hk : 1048580 ≤ k) : remoraref13_Split.f k a = some (splitL a) := by
 unfold sml at h
 exact rsplit_f a (by omega) k (by omega)
theorem spl_len (a : ByteArray) (h : sml a) : (splitL a).length ≤ 1048577 := by
 unfold sml at h
 have := splitL_len a
 omega
theorem sumS_sml (a : ByteArray) (h : sml a) : sumS (splitL a) + (splitL a).length < 70368744177664 := by
 have h1 := sumS_split a
 have h2 := spl_len a h
 unfold sml at h
 omega
end Go.Proofs.YtioehkeocddniaaDoor.PA
namespace Go.Proofs.YtioehkeocddniaaDoor.PA
open Go.RowKit Go.Proofs.YtioehkeocddniaaDoorW.PrintWords Go.Proofs.YtioehkeocddniaaDoorW.PrintLast Go.Proofs.YtioehkeocddniaaDoorW.PrintMore
attribute [local go_sem] max2_int min2_int max_two min_two max_three min_three max_four min_four
set_option linter.unusedVariables false
set_option linter.unusedSimpArgs false
theorem last_l (a : ByteArray) (hs : a.size < 4611686018427387904) : ∀ j k, j ≤ a.size → j + 1 ≤ k → bytealg_LastIndexByteString.l0 k a 47 ((j : Int) - 1) = some (((splitTo a j).2 : Int) - 1)
 | 0, k, _, hk => by
  obtain ⟨k, rfl⟩ : ∃ j, k = j + 1 := ⟨k - 1, by omega⟩
  rw [bytealg_LastIndexByteString.l0, if_neg (by omega)]
  rfl
 | j + 1, k, hj, hk => by
  obtain ⟨k, rfl⟩ : ∃ j, k = j + 1 := ⟨k - 1, by omega⟩
  have e : (((j + 1 : Nat) : Int) - 1) = (j : Int) := by omega
  rw [e, bytealg_LastIndexByteString.l0, if_pos (by omega), if_pos (by omega), if_pos (by omega)]
  by_cases hb : bt a (j : Int) = 47
  ·rw [if_pos hb, splitTo_hit a j hb]
   show some (j : Int) = some (((j + 1 : Nat) : Int) - 1)
   rw [e]
  ·rw [if_neg hb, splitTo_miss a j hb, wr64 _ (by omega) (by omega)]
   exact last_l a hs j k (by omega) (by omega)
theorem last_f (a : ByteArray) (ha : sml a) (k : Nat) (hk : 1048580 ≤ k) : strings_LastIndexByte.f k a 47 = some (((splitTo a a.size).2 : Int) - 1) := by
 unfold sml at ha
 rw [strings_LastIndexByte.f, bytealg_LastIndexByteString.f, wr64 _ (by omega) (by omega), last_l a (by omega) a.size k (by omega) (by omega), Option.bind_some]
def baseB (a : ByteArray) : ByteArray := a.extract (splitTo a a.size).2 a.size
def parB (a : ByteArray) : ByteArray := a.extract 0 ((splitTo a a.size).2 - 1)
theorem base_f (a : ByteArray) (ha : sml a) (k : Nat) (hk : 1048580 ≤ k) : path_Base.f k a = some (baseB a) := by
 have h1 := splitTo_le a a.size
 have ha' := ha
 unfold sml at ha'
 rw [path_Base.f, last_f a ha k hk, Option.bind_some]
 have e : wrap64 ((((splitTo a a.size).2 : Int) - 1) + 1) = ((splitTo a a.size).2 : Int) := by rw [wr64 _ (by omega) (by omega)]; omega
 rw [e, if_pos (by omega), if_pos (by omega), Int.toNat_natCast]
 rfl
theorem parent_f (a : ByteArray) (ha : sml a) (k : Nat) (hk : 1048580 ≤ k) : path_Parent.f k a = some (parB a) := by
 have h1 := splitTo_le a a.size
 rw [path_Parent.f, last_f a ha k hk, Option.bind_some]
 have e : mx (((splitTo a a.size).2 : Int) - 1) 0 = (((splitTo a a.size).2 - 1 : Nat) : Int) := by
  unfold mx
  split <;> omega
 rw [e, if_pos (by omega), if_pos (by omega), Int.toNat_natCast]
 rfl
theorem from_zero (a : ByteArray) : ∀ k, (splitTo a k).1.length = 0 ↔ (splitTo a k).2 = 0
 | 0 => ⟨fun _ => rfl, fun _ => rfl⟩
 | k + 1 => by
  by_cases hb : bt a (k : Int) = 47
  ·rw [splitTo_hit a k hb]; simp
  ·rw [splitTo_miss a k hb]; exact from_zero a k
theorem rbase_f (a : ByteArray) (ha : sml a) (k : Nat) (hk : 1048580 ≤ k) : remoraref13_Base.f k a = some (baseB a) := by
 have hl := spl_len a ha
 rw [remoraref13_Base.f, rsp_f a ha k hk, Option.bind_some]
 by_cases h : a.size = 0
 ·have e := (split_nil_iff a).2 h
  rw [e, if_pos (by decide), size_zero h]
  rfl
 ·have e : splitL a = (splitTo a a.size).1 ++ [a.extract (splitTo a a.size).2 a.size] := by rw [splitL, if_neg h]
  have el : (splitL a).length = (splitTo a a.size).1.length + 1 := by rw [e]; simp
  have ew : wrap64 (((splitL a).length : Int) - 1) = ((splitTo a a.size).1.length : Int) := by rw [wr64 _ (by omega) (by omega)]; omega
  rw [if_neg (by omega), ew, if_pos (by omega), if_pos (by omega), rdOf_get _ _ (by omega)]
  congr 1
  rw [List.getElem_of_eq e (by omega)]
  simp [baseB]
theorem rparent_f (a : ByteArray) (ha : sml a) (k : Nat) (hk : 1048580 ≤ k) : remoraref13_Parent.f k a = some (parB a) := by
 have hl := spl_len a ha
 rw [remoraref13_Parent.f, rsp_f a ha k hk, Option.bind_some]
 by_cases h : a.size = 0
 ·have e := (split_nil_iff a).2 h
  rw [e, if_pos (by decide), size_zero h]
  rfl
 ·have e : splitL a = (splitTo a a.size).1 ++ [a.extract (splitTo a a.size).2 a.size] := by rw [splitL, if_neg h]
  have el : (splitL a).length = (splitTo a a.size).1.length + 1 := by rw [e]; simp
  have hz := from_zero a a.size
  by_cases h2 : (splitTo a a.size).1.length = 0
  ·rw [if_pos (by omega), parB, hz.1 h2]
   congr 1
   apply toL_inj
   rw [toL_extract]
   rfl
  ·have ew : wrap64 (((splitL a).length : Int) - 1) = ((splitTo a a.size).1.length : Int) := by rw [wr64 _ (by omega) (by omega)]; omega
   have et : (splitL a).take (splitTo a a.size).1.length = (splitTo a a.size).1 := by rw [e]; simp
   have hs := sumS_sml a ha
   have ht := sumS_take (splitL a) (splitTo a a.size).1.length
   rw [et] at ht
   rw [if_neg (by omega), ew, if_pos (by omega), if_pos (by omega), Int.toNat_natCast, et, glue_f _ (by omega) k (by omega), Option.bind_some, joinB_to a a.size (Nat.le_refl _) (fun e => h2 (hz.2 e))]
   rfl
end Go.Proofs.YtioehkeocddniaaDoor.PA
namespace Go.Proofs.YtioehkeocddniaaDoor.PA
open Go.RowKit Go.Proofs.YtioehkeocddniaaDoorW.PrintWords Go.Proofs.YtioehkeocddniaaDoorW.PrintLast Go.Proofs.YtioehkeocddniaaDoorW.PrintMore
attribute [local go_sem] max2_int min2_int max_two min_two max_three min_three max_four min_four
set_option linter.unusedVariables false
set_option linter.unusedSimpArgs false
theorem rright_l (l : List ByteArray) (hsz : ∀ s ∈ l, s.size < 4398046511104) (hl : l.length < 9223372036854775807) : ∀ k j : Nat, j ≤ l.length → l.length - j + 50 < k → remoraref13_Right.l0 k l (j : Int) = some ((l.drop j).all partB)
 | 0, j, _, h => by omega
 | k + 1, j, hj, h => by
  unfold remoraref13_Right.l0
  by_cases hlt : j < l.length
  ·rw [if_pos (show (j : Int) < (l.length : Int) by omega), if_pos (show 0 ≤ (j : Int) by omega)]
   have e : rdOf ByteArray.empty l (j : Int) = l[j]'hlt := by
    simp [rdOf, hlt]
   have hs := hsz _ (List.getElem_mem hlt)
   rw [e, List.drop_eq_getElem_cons hlt, List.all_cons]
   have ih := rright_l l hsz hl k (j + 1) (by omega) (by omega)
   have e2 : wrap64 ((j : Int) + 1) = ((j + 1 : Nat) : Int) := by rw [wr64 _ (by omega) (by omega)]; rfl
   rw [e2]
   generalize l[j]'hlt = s at *
   unfold partB
   by_cases h1 : s.toList = ([] : List UInt8)
   ·rw [if_pos h1, beq_iff_eq.mpr h1]
    rfl
   ·rw [if_neg h1, beq_eq_false_iff_ne.mpr h1]
    by_cases h3 : s.toList = ([46] : List UInt8)
    ·rw [if_pos h3, beq_iff_eq.mpr h3]
     simp
    ·rw [if_neg h3, beq_eq_false_iff_ne.mpr h3]
     by_cases h4 : s.toList = ([46, 46] : List UInt8)
     ·rw [if_pos h4, beq_iff_eq.mpr h4]
      simp
     ·rw [if_neg h4, beq_eq_false_iff_ne.mpr h4]
      by_cases h2 : (s.size : Int) > 48
      ·rw [if_pos h2, decide_eq_false (show ¬ (s.size : Int) ≤ 48 by omega)]
       rfl
      ·rw [if_neg h2, decide_eq_true (show (s.size : Int) ≤ 48 by omega), rnought_f s hs k (by omega), Option.bind_some]
       by_cases hn : 0 ≤ Lib.indexByte s.data.toList 0
       ·rw [decide_eq_true hn, if_pos rfl, decide_eq_false (show ¬ Lib.indexByte s.data.toList 0 < 0 by omega)]
        rfl
       ·rw [decide_eq_false hn, if_neg (by decide), decide_eq_true (show Lib.indexByte s.data.toList 0 < 0 by omega), ih]
        rfl
  ·obtain rfl : j = l.length := by omega
   rw [if_neg (by omega), List.drop_length]
   rfl
theorem extract_le (s : ByteArray) (a b : Nat) : (s.extract a b).size ≤ s.size := by
 rw [ByteArray.size_extract]
 omega
theorem splitTo_sizes (s : ByteArray) : ∀ k, ∀ t ∈ (splitTo s k).1, t.size ≤ s.size
 | 0 => by simp [splitTo]
 | k + 1 => by
  have ih := splitTo_sizes s k
  unfold splitTo
  split
  ·intro t ht
   rcases List.mem_append.1 ht with h | h
   ·exact ih t h
   ·rw [List.mem_singleton.1 h]
    exact extract_le _ _ _
  ·exact ih
theorem splitL_sizes (s : ByteArray) : ∀ t ∈ splitL s, t.size ≤ s.size := by
 unfold splitL
 split
 ·simp
 ·intro t ht
  rcases List.mem_append.1 ht with h | h
  ·exact splitTo_sizes s _ t h
  ·rw [List.mem_singleton.1 h]
   exact extract_le _ _ _
theorem rright_f (s : ByteArray) (hs : s.size < 4398046511104) (k : Nat) (hk : s.size + 60 < k) : remoraref13_Right.f k s = some (rightB s) := by
 unfold remoraref13_Right.f
 rw [rsplit_f s hs k (by omega), Option.bind_some]
 have hl := splitL_len s
 have hz := splitL_sizes s
 unfold rightB
 cases k with
 | zero => omega
 | succ k =>
  have hj : ∀ b, remoraref13_Right.j0 (k + 1) (splitL s) b = if b = true then some false else remoraref13_Right.l0 k (splitL s) 0 := fun _ => rfl
  have hr := rright_l (splitL s) (fun t ht => by have := hz t ht; omega) (by omega) k 0 (by omega) (by omega)
  rw [List.drop_zero] at hr
  by_cases h1 : ((splitL s).length : Int) > 12
  ·rw [if_pos h1, hj, if_pos rfl, decide_eq_false (show ¬ ((splitL s).length : Int) ≤ 12 by omega)]
   simp
  ·rw [if_neg h1, hj, decide_eq_true (show ((splitL s).length : Int) ≤ 12 by omega)]
   by_cases h2 : (s.size : Int) > 200
   ·rw [decide_eq_true h2, if_pos rfl, decide_eq_false (show ¬ (s.size : Int) ≤ 200 by omega)]
    simp
   ·rw [decide_eq_false h2, if_neg (by decide), decide_eq_true (show (s.size : Int) ≤ 200 by omega)]
    rw [show ((0 : Nat) : Int) = 0 from rfl] at hr
    rw [hr]
    simp
end Go.Proofs.YtioehkeocddniaaDoor.PA
namespace Go.Proofs.YtioehkeocddniaaDoor.PA
open Go.RowKit Go.Proofs.YtioehkeocddniaaDoorW.PrintWords Go.Proofs.YtioehkeocddniaaDoorW.PrintLast Go.Proofs.YtioehkeocddniaaDoorW.PrintMore
attribute [local go_sem] max2_int min2_int max_two min_two max_three min_three max_four min_four
set_option linter.unusedVariables false
set_option linter.unusedSimpArgs false
theorem size_tl (p : ByteArray) : p.toList = ([] : List UInt8) ↔ p.size = 0 := by
 constructor
 ·intro h
  have := congrArg List.length h
  rw [ByteArray.toList_eq, Array.length_toList] at this
  exact this
 ·intro h
  rw [ByteArray.toList_eq]
  exact List.eq_nil_of_length_eq_zero (by rw [Array.length_toList]; exact h)
theorem wr_predB (t : ByteArray) (hs : t.size ≤ 9223372036854775807) (h : 0 < t.size) : wrap64 ((t.size : Int) - 1) = ((t.size - 1 : Nat) : Int) := by
 rw [wr64 _ (by omega) (by omega)]
 omega
def badP (p : ByteArray) : Bool := decide (p.size = 0) || (decide (bt p 0 = 47) || (decide (bt p ((p.size - 1 : Nat) : Int) = 47) || hasB p 10))
def chkI (a : Int) (p : ByteArray) : Int := if actB a = 0 then 2 else if badP p = true then 5 else chkO p
theorem check_f (a : Int) (p : ByteArray) (d h : Bool) (hs : p.size ≤ 9223372036854775807) : rules_check.f a p d h = some (chkI a p) := by
 unfold rules_check.f chkI
 rw [rules_sign.f, Option.bind_some]
 by_cases h1 : actB a = 0
 ·rw [if_pos h1, if_pos h1]
 ·rw [if_neg h1, if_neg h1]
  by_cases h2 : p.size = 0
  ·rw [if_pos ((size_tl p).2 h2), if_pos (show badP p = true by unfold badP; rw [decide_eq_true h2]; rfl)]
  ·rw [if_neg (fun e => h2 ((size_tl p).1 e)), if_pos (by omega)]
   by_cases h3 : bt p 0 = 47
   ·rw [if_pos h3, if_pos (show badP p = true by unfold badP; rw [decide_eq_true h3]; simp)]
   ·rw [if_neg h3, wr_predB p hs (by omega), if_pos (by omega), if_pos (by omega)]
    by_cases h4 : bt p ((p.size - 1 : Nat) : Int) = 47
    ·rw [if_pos h4, if_pos (show badP p = true by unfold badP; rw [decide_eq_true h4]; simp)]
    ·rw [if_neg h4, strings_Contains.f, if_pos (show (⟨#[10]⟩ : ByteArray).size = 1 from rfl), Option.bind_some]
     have e : badP p = hasB p 10 := by unfold badP; rw [decide_eq_false h2, decide_eq_false h3, decide_eq_false h4]; simp
     have e2 : hasB p ((⟨#[10]⟩ : ByteArray).data.toList.headD 0) = hasB p 10 := rfl
     rw [e2, e]
     by_cases h5 : hasB p 10 = true
     ·rw [if_pos h5, if_pos h5]
     ·rw [if_neg h5, if_neg h5, glob_Check.f, Option.bind_some]
theorem has10_l (s : ByteArray) (a : Int) (d h : Bool) (hs : s.size < 1000000) : ∀ k j : Nat, j ≤ s.size → s.size - j < k → remoraref15_one.l0 k (s.size : Int) (j : Int) a s d h = some (if 0 ≤ Lib.indexByte (s.data.toList.drop j) 10 then 5 else chkO s)
 | 0, j, _, h => by omega
 | k + 1, j, hj, hk => by
  unfold remoraref15_one.l0
  by_cases hlt : j < s.size
  ·have e2 : wrap64 ((j : Int) + 1) = ((j + 1 : Nat) : Int) := by rw [wr64 _ (by omega) (by omega)]; rfl
   rw [if_pos (show (j : Int) < (s.size : Int) by omega), if_pos (show 0 ≤ (j : Int) by omega), if_pos (show (j : Int) < (s.size : Int) by omega), e2]
   have hl : j < s.data.toList.length := by rw [Array.length_toList]; exact hlt
   rw [List.drop_eq_getElem_cons hl]
   have eb : bt s (j : Int) = ((s.data.toList[j]'hl).toNat : Int) := by
    rw [bt, dif_pos (by simpa using hlt)]
    simp
    rfl
   rw [eb]
   generalize s.data.toList[j]'hl = b
   have ih := has10_l s a d h hs k (j + 1) (by omega) (by omega)
   by_cases hb : b = 10
   ·subst hb
    rw [if_pos (by decide), if_pos]
    simp [Lib.indexByte]
   ·rw [if_neg (by intro h0; exact hb (UInt8.toNat_inj.1 (show b.toNat = 10 by omega))), ih]
    have hg := index_ge 10 (s.data.toList.drop (j + 1))
    have e : Lib.indexByte (b :: s.data.toList.drop (j + 1)) 10 = if Lib.indexByte (s.data.toList.drop (j + 1)) 10 == -1 then -1 else Lib.indexByte (s.data.toList.drop (j + 1)) 10 + 1 := by
     rw [Lib.indexByte, if_neg (by simpa using hb)]
    rw [e]
    generalize Lib.indexByte (s.data.toList.drop (j + 1)) 10 = x at *
    by_cases hx : x = -1
    ·subst hx
     rfl
    ·rw [if_neg (show ¬ (x == -1) = true by simpa using hx), if_pos (show 0 ≤ x by omega), if_pos (show 0 ≤ x + 1 by omega)]
  ·obtain rfl : j = s.size := by omega
   have hn : ¬ 0 ≤ Lib.indexByte (s.data.toList.drop s.size) 10 := by
    have : s.data.toList.drop s.size = [] := List.drop_eq_nil_of_le (by rw [Array.length_toList]; exact Nat.le_refl _)
    rw [this]
    decide
   rw [if_neg (by omega), if_neg hn, remoraref14_Check.f, if_pos hs, Option.bind_some]
theorem one_f (a : Int) (p : ByteArray) (d h : Bool) (hs : p.size < 1000000) (k : Nat) (hk : p.size + 3 ≤ k) : remoraref15_one.f k a p d h = some (chkI a p) := by
 obtain ⟨k, rfl⟩ : ∃ j, k = j + 1 := ⟨k - 1, by omega⟩
 unfold remoraref15_one.f
 have j0t : remoraref15_one.j0 (k + 1) true a p d h = some 2 := by rw [remoraref15_one.j0, if_pos rfl]
 by_cases ha : 1 ≤ a ∧ a ≤ 4
 ·have hb : actB a ≠ 0 := by
   obtain ⟨h1, h2⟩ := ha
   have : a = 1 ∨ a = 2 ∨ a = 3 ∨ a = 4 := by omega
   rcases this with rfl | rfl | rfl | rfl <;> decide
  rw [if_neg (by omega), decide_eq_false (by omega), remoraref15_one.j0, if_neg (by decide)]
  obtain ⟨k, rfl⟩ : ∃ j, k = j + 1 := ⟨k - 1, by omega⟩
  have j1t : remoraref15_one.j1 (k + 1) (p.size : Int) true a p d h = some 5 := by rw [remoraref15_one.j1, if_pos rfl]
  unfold chkI
  rw [if_neg hb]
  by_cases h2 : p.size = 0
  ·rw [if_pos (by omega), j1t, if_pos (show badP p = true by unfold badP; rw [decide_eq_true h2]; rfl)]
  ·rw [if_neg (by omega), if_pos (by omega)]
   by_cases h3 : bt p 0 = 47
   ·rw [if_pos h3, j1t, if_pos (show badP p = true by unfold badP; rw [decide_eq_true h3]; simp)]
   ·rw [if_neg h3, wr_predB p (by omega) (by omega), if_pos (by omega), if_pos (by omega)]
    by_cases h4 : bt p ((p.size - 1 : Nat) : Int) = 47
    ·rw [beq_iff_eq.2 h4, j1t, if_pos (show badP p = true by unfold badP; rw [decide_eq_true h4]; simp)]
    ·have e : badP p = hasB p 10 := by unfold badP; rw [decide_eq_false h2, decide_eq_false h3, decide_eq_false h4]; simp
     rw [beq_eq_false_iff_ne.2 h4, remoraref15_one.j1, if_neg (by decide), show (0 : Int) = ((0 : Nat) : Int) from rfl, has10_l p a d h hs k 0 (by omega) (by omega), e]
     unfold hasB
     rw [List.drop_zero]
     by_cases h5 : 0 ≤ Lib.indexByte p.data.toList 10
     ·rw [if_pos h5, decide_eq_true h5, if_pos rfl]
     ·rw [if_neg h5, decide_eq_false h5, if_neg (by decide)]
 ·have hb : actB a = 0 := by unfold actB; rw [if_neg (by omega), if_neg (by omega), if_neg (by omega), if_neg (by omega)]
  unfold chkI
  rw [if_pos hb]
  by_cases h1 : a < 1
  ·rw [if_pos h1, j0t]
  ·rw [if_neg h1, decide_eq_true (show a > 4 by omega), j0t]
def chkR (x : S24) : Int := chkI x.f0 x.f1
theorem rd24_get (L : List S24) (i : Nat) (h : i < L.length) : rd_T24 L (i : Int) = L[i] := by
 simp [rd_T24, rdOf, h]
end Go.Proofs.YtioehkeocddniaaDoor.PA
