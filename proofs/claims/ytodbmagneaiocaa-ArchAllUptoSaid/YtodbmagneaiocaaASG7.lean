/- Own texts and the print's words: Xremoraref43Became to PAfarchpathOf. -/
import Derived.BigQuiet
import Derived.Deep.QuietTactic
import Derived.Great.BuildSlice
import Derived.Laws.CopyOwn
import Derived.Laws.CopyRow
import Derived.Laws.NewBlocks
import Derived.Outline
import Derived.Test.YtodbmagneaiocaaASG1
import Derived.Test.YtodbmagneaiocaaASG5
import Derived.Test.YtodbmagneaiocaaASG6
import Derived.Test.YtodbmagneaiocaaASG3
namespace Go.Proofs.Ytodbmagneaiocaa.PA
open Go.RowKit Go.Proofs.YtodbmagneaiocaaW.PrintWords Go.Proofs.YtodbmagneaiocaaW.PrintLast Go.Proofs.YtodbmagneaiocaaW.PrintMore
attribute [local go_sem] max2_int min2_int max_two min_two max_three min_three max_four min_four
set_option linter.unusedVariables false
set_option linter.unusedSimpArgs false
def remoraref43_Became_h.T8 : Bool × List (List Nat × List Nat) := (true, [([], []), ([], []), ([0, 1], [0, 1]), ([2], [2]), ([], []), ([], []), ([4, 5], [4, 5]), ([6], [6]), ([], []), ([], []), ([8, 3, 0, 1, 2, 3, 8, 9], [3, 8]), ([9, 7, 10, 0, 1, 2, 3, 4, 5, 6, 7, 8, 9, 10], [7, 9])])
def remoraref43_Became_h.B8 : List Nat := [0, 0, 3, 7, 0, 0, 48, 112, 0, 0, 783, 2047]
theorem remoraref43_Became_h.tab8 : rtab .any (opsOf Try.f20 8) = remoraref43_Became_h.T8 := by kernel_rfl
theorem remoraref43_Became_h.bits8 : waitsOk remoraref43_Became_h.T8.2 remoraref43_Became_h.B8 = true := by kernel_rfl
def becR (l0 l1 : List S43) (p : ByteArray) : Int := if findE p l0 = none ∧ findE p l1 = none then 0 else bec l0 l1 p
set_option maxHeartbeats 4000000 in
set_option maxRecDepth 100000 in
theorem rbec_none (A0 : Option Addr) (c0 : Nat) (l0 : List S43) (A1 : Option Addr) (c1 : Nat) (l1 : List S43) (p : ByteArray) (w : World) (hr0 : Kd.C k43 w A0 l0.length l0) (hc0 : l0.length ≤ c0) (hr1 : Kd.C k43 w A1 l1.length l1) (hc1 : l1.length ≤ c1) (z0 : l0.length ≤ 100000) (z1 : l1.length ≤ 100000) (e0 : remoraref43_find.f 200000 l0 p = some (-1)) (e1 : remoraref43_find.f 200000 l1 p = some (-1)) :
  Calls Try.prog 20 #[.slice A0 l0.length c0, .slice A1 l1.length c1, .string p] w fun e w' => e = .returned (.int .i64 (0)) ∧ Below w.heap.size w w' := by
 have hu := Try.underlying43
 have HR0 := Aside0.mk hr0
 have HR1 := Aside0.mk hr1
 have HD := Aside0.mk (Below.refl w.heap.size w)
 have HF0 : Aside0 (∀ W, Below w.heap.size w W → Calls Try.prog 28 #[.slice A0 l0.length c0, .string p] W fun e w' => e = .returned (.int .i64 (-1)) ∧ Drawn0 W w') := ⟨fun W hb => remoraref43_find.calls 200000 A0 c0 l0 p (-1) W (Kd.C_below HR0.out hb) hc0 e0⟩
 have HF1 : Aside0 (∀ W, Below w.heap.size w W → Calls Try.prog 28 #[.slice A1 l1.length c1, .string p] W fun e w' => e = .returned (.int .i64 (-1)) ∧ Drawn0 W w') := ⟨fun W hb => remoraref43_find.calls 200000 A1 c1 l1 p (-1) W (Kd.C_below HR1.out hb) hc1 e1⟩
 clear hr0 hc0 hr1 hc1 z0 z1
 go_enter Try.func20, Try.ntmps20
 go_wp2_with (first | (go_at_call 28; (with_reducible refine (HF0.out _ HD.out).mono ?_); rintro e w9 ⟨rfl, hd⟩; have n0_ := Aside0.mk (below_step HD.out hd.below); clear HD hd; have HD := n0_; clear n0_) | (go_at_call 28; (with_reducible refine (HF1.out _ HD.out).mono ?_); rintro e w9 ⟨rfl, hd⟩; have n0_ := Aside0.mk (below_step HD.out hd.below); clear HD hd; have HD := n0_; clear n0_))
 go_ret
 exact ⟨rfl, HD.out⟩
set_option maxHeartbeats 4000000 in
set_option maxRecDepth 100000 in
theorem rbec_new (j : Nat) (A0 : Option Addr) (c0 : Nat) (l0 : List S43) (A1 : Option Addr) (c1 : Nat) (l1 : List S43) (p : ByteArray) (w : World) (hr0 : Kd.C k43 w A0 l0.length l0) (hc0 : l0.length ≤ c0) (hr1 : Kd.C k43 w A1 l1.length l1) (hc1 : l1.length ≤ c1) (z0 : l0.length ≤ 100000) (z1 : l1.length ≤ 100000) (e0 : remoraref43_find.f 200000 l0 p = some (-1)) (e1 : remoraref43_find.f 200000 l1 p = some (j : Int)) :
  Calls Try.prog 20 #[.slice A0 l0.length c0, .slice A1 l1.length c1, .string p] w fun e w' => e = .returned (.int .i64 (1)) ∧ Below w.heap.size w w' := by
 have hu := Try.underlying43
 have HR0 := Aside0.mk hr0
 have HR1 := Aside0.mk hr1
 have HD := Aside0.mk (Below.refl w.heap.size w)
 have HF0 : Aside0 (∀ W, Below w.heap.size w W → Calls Try.prog 28 #[.slice A0 l0.length c0, .string p] W fun e w' => e = .returned (.int .i64 (-1)) ∧ Drawn0 W w') := ⟨fun W hb => remoraref43_find.calls 200000 A0 c0 l0 p (-1) W (Kd.C_below HR0.out hb) hc0 e0⟩
 have HF1 : Aside0 (∀ W, Below w.heap.size w W → Calls Try.prog 28 #[.slice A1 l1.length c1, .string p] W fun e w' => e = .returned (.int .i64 (j : Int)) ∧ Drawn0 W w') := ⟨fun W hb => remoraref43_find.calls 200000 A1 c1 l1 p (j : Int) W (Kd.C_below HR1.out hb) hc1 e1⟩
 clear hr0 hc0 hr1 hc1 z0 z1
 go_enter Try.func20, Try.ntmps20
 go_wp2_with (first | (go_at_call 28; (with_reducible refine (HF0.out _ HD.out).mono ?_); rintro e w9 ⟨rfl, hd⟩; have n0_ := Aside0.mk (below_step HD.out hd.below); clear HD hd; have HD := n0_; clear n0_) | (go_at_call 28; (with_reducible refine (HF1.out _ HD.out).mono ?_); rintro e w9 ⟨rfl, hd⟩; have n0_ := Aside0.mk (below_step HD.out hd.below); clear HD hd; have HD := n0_; clear n0_))
 go_ret
 exact ⟨rfl, HD.out⟩
set_option maxHeartbeats 4000000 in
set_option maxRecDepth 100000 in
theorem rbec_gone (j : Nat) (A0 : Option Addr) (c0 : Nat) (l0 : List S43) (A1 : Option Addr) (c1 : Nat) (l1 : List S43) (p : ByteArray) (w : World) (hr0 : Kd.C k43 w A0 l0.length l0) (hc0 : l0.length ≤ c0) (hr1 : Kd.C k43 w A1 l1.length l1) (hc1 : l1.length ≤ c1) (z0 : l0.length ≤ 100000) (z1 : l1.length ≤ 100000) (e0 : remoraref43_find.f 200000 l0 p = some (j : Int)) (e1 : remoraref43_find.f 200000 l1 p = some (-1)) :
  Calls Try.prog 20 #[.slice A0 l0.length c0, .slice A1 l1.length c1, .string p] w fun e w' => e = .returned (.int .i64 (2)) ∧ Below w.heap.size w w' := by
 have hu := Try.underlying43
 have HR0 := Aside0.mk hr0
 have HR1 := Aside0.mk hr1
 have HD := Aside0.mk (Below.refl w.heap.size w)
 have HF0 : Aside0 (∀ W, Below w.heap.size w W → Calls Try.prog 28 #[.slice A0 l0.length c0, .string p] W fun e w' => e = .returned (.int .i64 (j : Int)) ∧ Drawn0 W w') := ⟨fun W hb => remoraref43_find.calls 200000 A0 c0 l0 p (j : Int) W (Kd.C_below HR0.out hb) hc0 e0⟩
 have HF1 : Aside0 (∀ W, Below w.heap.size w W → Calls Try.prog 28 #[.slice A1 l1.length c1, .string p] W fun e w' => e = .returned (.int .i64 (-1)) ∧ Drawn0 W w') := ⟨fun W hb => remoraref43_find.calls 200000 A1 c1 l1 p (-1) W (Kd.C_below HR1.out hb) hc1 e1⟩
 clear hr0 hc0 hr1 hc1 z0 z1
 go_enter Try.func20, Try.ntmps20
 go_wp2_with (first | (go_at_call 28; (with_reducible refine (HF0.out _ HD.out).mono ?_); rintro e w9 ⟨rfl, hd⟩; have n0_ := Aside0.mk (below_step HD.out hd.below); clear HD hd; have HD := n0_; clear n0_) | (go_at_call 28; (with_reducible refine (HF1.out _ HD.out).mono ?_); rintro e w9 ⟨rfl, hd⟩; have n0_ := Aside0.mk (below_step HD.out hd.below); clear HD hd; have HD := n0_; clear n0_))
 go_ret
 exact ⟨rfl, HD.out⟩
theorem box_storeX {x : S43} {W : World} {g : Nat} {cs : Array Value} (h : W.heap[g]? = some (.cells cs 43 (0, 0))) (hs : cs.size = 11 := by rfl) : (Instr.storeAt 43 (.pointer (some ⟨g, 0, none⟩)) (.agg #[.string x.f0, .int .i64 x.f1, .int .i64 x.f2, .int .i64 x.f3.f0, .int .i64 x.f3.f1, .int .i64 x.f3.f2, .int .i64 x.f3.f3, .int .i64 x.f3.f4, .string x.f4, .string x.f5, .int .i64 x.f6])).run Try.prog W = .ok () (W.setRow g #[.string x.f0, .int .i64 x.f1, .int .i64 x.f2, .int .i64 x.f3.f0, .int .i64 x.f3.f1, .int .i64 x.f3.f2, .int .i64 x.f3.f3, .int .i64 x.f3.f4, .string x.f4, .string x.f5, .int .i64 x.f6]) := by
 have h1 := run_storeCells_from (P := Try.prog) g 43 [.string x.f0, .int .i64 x.f1, .int .i64 x.f2, .int .i64 x.f3.f0, .int .i64 x.f3.f1, .int .i64 x.f3.f2, .int .i64 x.f3.f3, .int .i64 x.f3.f4, .string x.f4, .string x.f5, .int .i64 x.f6] 0 cs W h (by rw [hs]; rfl) (one43 x)
 rw [List.take_zero, List.nil_append] at h1
 exact storeAt43 (cs := [.string x.f0, .int .i64 x.f1, .int .i64 x.f2, .int .i64 x.f3.f0, .int .i64 x.f3.f1, .int .i64 x.f3.f2, .int .i64 x.f3.f3, .int .i64 x.f3.f4, .string x.f4, .string x.f5, .int .i64 x.f6]) rfl h1
theorem box_storeY {y : S43} {W : World} {g : Nat} {cs : Array Value} (h : W.heap[g]? = some (.cells cs 43 (0, 0))) (hs : cs.size = 11 := by rfl) : (Instr.storeAt 43 (.pointer (some ⟨g, 0, none⟩)) (.agg #[.string y.f0, .int .i64 y.f1, .int .i64 y.f2, .int .i64 y.f3.f0, .int .i64 y.f3.f1, .int .i64 y.f3.f2, .int .i64 y.f3.f3, .int .i64 y.f3.f4, .string y.f4, .string y.f5, .int .i64 y.f6])).run Try.prog W = .ok () (W.setRow g #[.string y.f0, .int .i64 y.f1, .int .i64 y.f2, .int .i64 y.f3.f0, .int .i64 y.f3.f1, .int .i64 y.f3.f2, .int .i64 y.f3.f3, .int .i64 y.f3.f4, .string y.f4, .string y.f5, .int .i64 y.f6]) := by
 have h1 := run_storeCells_from (P := Try.prog) g 43 [.string y.f0, .int .i64 y.f1, .int .i64 y.f2, .int .i64 y.f3.f0, .int .i64 y.f3.f1, .int .i64 y.f3.f2, .int .i64 y.f3.f3, .int .i64 y.f3.f4, .string y.f4, .string y.f5, .int .i64 y.f6] 0 cs W h (by rw [hs]; rfl) (one43 y)
 rw [List.take_zero, List.nil_append] at h1
 exact storeAt43 (cs := [.string y.f0, .int .i64 y.f1, .int .i64 y.f2, .int .i64 y.f3.f0, .int .i64 y.f3.f1, .int .i64 y.f3.f2, .int .i64 y.f3.f3, .int .i64 y.f3.f4, .string y.f4, .string y.f5, .int .i64 y.f6]) rfl h1
set_option maxHeartbeats 4000000 in
set_option maxRecDepth 100000 in
theorem rbec_two (A0 : Option Addr) (c0 : Nat) (l0 : List S43) (A1 : Option Addr) (c1 : Nat) (l1 : List S43) (p : ByteArray) (w : World) (hr0 : Kd.C k43 w A0 l0.length l0) (hc0 : l0.length ≤ c0) (hr1 : Kd.C k43 w A1 l1.length l1) (hc1 : l1.length ≤ c1) (z0 : l0.length ≤ 100000) (z1 : l1.length ≤ 100000) (x y : S43) (i j : Nat) (hi : i < l0.length) (hj : j < l1.length) (ex : l0[i] = x) (ey : l1[j] = y) (e0 : remoraref43_find.f 200000 l0 p = some (i : Int)) (e1 : remoraref43_find.f 200000 l1 p = some (j : Int)) :
  Calls Try.prog 20 #[.slice A0 l0.length c0, .slice A1 l1.length c1, .string p] w fun e w' => e = .returned (.int .i64 (becameI (some x) (some y))) ∧ Below w.heap.size w w' := by
 have hu := Try.underlying43
 have HR0 := Aside0.mk hr0
 have HR1 := Aside0.mk hr1
 have HD := Aside0.mk (Below.refl w.heap.size w)
 have HF0 : Aside0 (∀ W, Below w.heap.size w W → Calls Try.prog 28 #[.slice A0 l0.length c0, .string p] W fun e w' => e = .returned (.int .i64 (i : Int)) ∧ Drawn0 W w') := ⟨fun W hb => remoraref43_find.calls 200000 A0 c0 l0 p (i : Int) W (Kd.C_below HR0.out hb) hc0 e0⟩
 have HF1 : Aside0 (∀ W, Below w.heap.size w W → Calls Try.prog 28 #[.slice A1 l1.length c1, .string p] W fun e w' => e = .returned (.int .i64 (j : Int)) ∧ Drawn0 W w') := ⟨fun W hb => remoraref43_find.calls 200000 A1 c1 l1 p (j : Int) W (Kd.C_below HR1.out hb) hc1 e1⟩
 obtain ⟨adx, eax, ax_0, ax_1, ax_2, ax_3, ax_4, ax_5, ax_6, ax_7, ax_8, ax_9, ax_10⟩ := at_T43 hr0 (i : Int) (by omega) (by omega)
 obtain ⟨ady, eay, ay_0, ay_1, ay_2, ay_3, ay_4, ay_5, ay_6, ay_7, ay_8, ay_9, ay_10⟩ := at_T43 hr1 (j : Int) (by omega) (by omega)
 cases eax
 cases eay
 rw [Int.toNat_natCast, rdE_get l0 i hi, ex] at ax_0 ax_1 ax_2 ax_3 ax_4 ax_5 ax_6 ax_7 ax_8 ax_9 ax_10
 rw [Int.toNat_natCast, rdE_get l1 j hj, ey] at ay_0 ay_1 ay_2 ay_3 ay_4 ay_5 ay_6 ay_7 ay_8 ay_9 ay_10
 have p1 : (0 ≤ (i : Int)) = True := eq_true (by omega)
 have p2 : ((i : Int) < (l0.length : Int)) = True := eq_true (by omega)
 have p3 : (0 ≤ (j : Int)) = True := eq_true (by omega)
 have p4 : ((j : Int) < (l1.length : Int)) = True := eq_true (by omega)
 have p5 : decide ((i : Int) < 0) = false := decide_eq_false (by omega)
 have p6 : decide ((j : Int) < 0) = false := decide_eq_false (by omega)
 have hu2 := Try.underlying41
 have AX0 := Aside0.mk ax_0
 have AY0 := Aside0.mk ay_0
 have AX1 := Aside0.mk ax_1
 have AY1 := Aside0.mk ay_1
 have AX2 := Aside0.mk ax_2
 have AY2 := Aside0.mk ay_2
 have AX3 := Aside0.mk ax_3
 have AY3 := Aside0.mk ay_3
 have AX4 := Aside0.mk ax_4
 have AY4 := Aside0.mk ay_4
 have AX5 := Aside0.mk ax_5
 have AY5 := Aside0.mk ay_5
 have AX6 := Aside0.mk ax_6
 have AY6 := Aside0.mk ay_6
 have AX7 := Aside0.mk ax_7
 have AY7 := Aside0.mk ay_7
 have AX8 := Aside0.mk ax_8
 have AY8 := Aside0.mk ay_8
 have AX9 := Aside0.mk ax_9
 have AY9 := Aside0.mk ay_9
 have AX10 := Aside0.mk ax_10
 have AY10 := Aside0.mk ay_10
 clear hr0 hc0 hr1 hc1 z0 z1 hi hj ex ey e0 e1 ax_0 ay_0 ax_1 ay_1 ax_2 ay_2 ax_3 ay_3 ax_4 ay_4 ax_5 ay_5 ax_6 ay_6 ax_7 ay_7 ax_8 ay_8 ax_9 ay_9 ax_10 ay_10
 go_enter Try.func20, Try.ntmps20
 go_wp2_with (first | (go_at_call 28; (with_reducible refine (HF0.out _ HD.out).mono ?_); rintro e w9 ⟨rfl, hd⟩; have n0_ := Aside0.mk (below_step HD.out hd.below); clear HD hd; have HD := n0_; clear n0_) | (go_at_call 28; (with_reducible refine (HF1.out _ HD.out).mono ?_); rintro e w9 ⟨rfl, hd⟩; have n0_ := Aside0.mk (below_step HD.out hd.below); clear HD hd; have HD := n0_; clear n0_))
 have HD0 := Aside0.mk (below_drew HD.out)
 clear HD
 have hx_0 := (HD0.out.cell (World.block_lt_of_cell? w _ AX0.out)).trans AX0.out
 have hy_0 := (HD0.out.cell (World.block_lt_of_cell? w _ AY0.out)).trans AY0.out
 have hx_1 := (HD0.out.cell (World.block_lt_of_cell? w _ AX1.out)).trans AX1.out
 have hy_1 := (HD0.out.cell (World.block_lt_of_cell? w _ AY1.out)).trans AY1.out
 have hx_2 := (HD0.out.cell (World.block_lt_of_cell? w _ AX2.out)).trans AX2.out
 have hy_2 := (HD0.out.cell (World.block_lt_of_cell? w _ AY2.out)).trans AY2.out
 have hx_3 := (HD0.out.cell (World.block_lt_of_cell? w _ AX3.out)).trans AX3.out
 have hy_3 := (HD0.out.cell (World.block_lt_of_cell? w _ AY3.out)).trans AY3.out
 have hx_4 := (HD0.out.cell (World.block_lt_of_cell? w _ AX4.out)).trans AX4.out
 have hy_4 := (HD0.out.cell (World.block_lt_of_cell? w _ AY4.out)).trans AY4.out
 have hx_5 := (HD0.out.cell (World.block_lt_of_cell? w _ AX5.out)).trans AX5.out
 have hy_5 := (HD0.out.cell (World.block_lt_of_cell? w _ AY5.out)).trans AY5.out
 have hx_6 := (HD0.out.cell (World.block_lt_of_cell? w _ AX6.out)).trans AX6.out
 have hy_6 := (HD0.out.cell (World.block_lt_of_cell? w _ AY6.out)).trans AY6.out
 have hx_7 := (HD0.out.cell (World.block_lt_of_cell? w _ AX7.out)).trans AX7.out
 have hy_7 := (HD0.out.cell (World.block_lt_of_cell? w _ AY7.out)).trans AY7.out
 have hx_8 := (HD0.out.cell (World.block_lt_of_cell? w _ AX8.out)).trans AX8.out
 have hy_8 := (HD0.out.cell (World.block_lt_of_cell? w _ AY8.out)).trans AY8.out
 have hx_9 := (HD0.out.cell (World.block_lt_of_cell? w _ AX9.out)).trans AX9.out
 have hy_9 := (HD0.out.cell (World.block_lt_of_cell? w _ AY9.out)).trans AY9.out
 have hx_10 := (HD0.out.cell (World.block_lt_of_cell? w _ AX10.out)).trans AX10.out
 have hy_10 := (HD0.out.cell (World.block_lt_of_cell? w _ AY10.out)).trans AY10.out
 refine start_ (n := 12) (S := fun w' => w'.cell? (adx.add (i * 11)) = some (.string x.f0) ∧ w'.cell? ⟨(adx.add (i * 11)).block, (adx.add (i * 11)).off + 1, none⟩ = some (.int .i64 x.f1) ∧ w'.cell? ⟨(adx.add (i * 11)).block, (adx.add (i * 11)).off + 2, none⟩ = some (.int .i64 x.f2) ∧ w'.cell? ⟨(adx.add (i * 11)).block, (adx.add (i * 11)).off + 3, none⟩ = some (.int .i64 x.f3.f0) ∧ w'.cell? ⟨(adx.add (i * 11)).block, (adx.add (i * 11)).off + 4, none⟩ = some (.int .i64 x.f3.f1) ∧ w'.cell? ⟨(adx.add (i * 11)).block, (adx.add (i * 11)).off + 5, none⟩ = some (.int .i64 x.f3.f2) ∧ w'.cell? ⟨(adx.add (i * 11)).block, (adx.add (i * 11)).off + 6, none⟩ = some (.int .i64 x.f3.f3) ∧ w'.cell? ⟨(adx.add (i * 11)).block, (adx.add (i * 11)).off + 7, none⟩ = some (.int .i64 x.f3.f4) ∧ w'.cell? ⟨(adx.add (i * 11)).block, (adx.add (i * 11)).off + 8, none⟩ = some (.string x.f4) ∧ w'.cell? ⟨(adx.add (i * 11)).block, (adx.add (i * 11)).off + 9, none⟩ = some (.string x.f5) ∧ w'.cell? ⟨(adx.add (i * 11)).block, (adx.add (i * 11)).off + 10, none⟩ = some (.int .i64 x.f6) ∧ w'.cell? (ady.add (j * 11)) = some (.string y.f0) ∧ w'.cell? ⟨(ady.add (j * 11)).block, (ady.add (j * 11)).off + 1, none⟩ = some (.int .i64 y.f1) ∧ w'.cell? ⟨(ady.add (j * 11)).block, (ady.add (j * 11)).off + 2, none⟩ = some (.int .i64 y.f2) ∧ w'.cell? ⟨(ady.add (j * 11)).block, (ady.add (j * 11)).off + 3, none⟩ = some (.int .i64 y.f3.f0) ∧ w'.cell? ⟨(ady.add (j * 11)).block, (ady.add (j * 11)).off + 4, none⟩ = some (.int .i64 y.f3.f1) ∧ w'.cell? ⟨(ady.add (j * 11)).block, (ady.add (j * 11)).off + 5, none⟩ = some (.int .i64 y.f3.f2) ∧ w'.cell? ⟨(ady.add (j * 11)).block, (ady.add (j * 11)).off + 6, none⟩ = some (.int .i64 y.f3.f3) ∧ w'.cell? ⟨(ady.add (j * 11)).block, (ady.add (j * 11)).off + 7, none⟩ = some (.int .i64 y.f3.f4) ∧ w'.cell? ⟨(ady.add (j * 11)).block, (ady.add (j * 11)).off + 8, none⟩ = some (.string y.f4) ∧ w'.cell? ⟨(ady.add (j * 11)).block, (ady.add (j * 11)).off + 9, none⟩ = some (.string y.f5) ∧ w'.cell? ⟨(ady.add (j * 11)).block, (ady.add (j * 11)).off + 10, none⟩ = some (.int .i64 y.f6)) (ds := []) #[false, false, false, false, false, false, false, false, false, false, false, false] (by kernel_rfl) rfl rfl ⟨hx_0, hx_1, hx_2, hx_3, hx_4, hx_5, hx_6, hx_7, hx_8, hx_9, hx_10, hy_0, hy_1, hy_2, hy_3, hy_4, hy_5, hy_6, hy_7, hy_8, hy_9, hy_10⟩ (fun hHeld => ?_)
 refine with_tabW remoraref43_Became_h.tab8 remoraref43_Became_h.bits8 (fun HT_ HW_ => ?_)
 generalize w9.drew = W0 at hHeld HD0 hx_0 hx_1 hx_2 hx_3 hx_4 hx_5 hx_6 hx_7 hx_8 hx_9 hx_10 hy_0 hy_1 hy_2 hy_3 hy_4 hy_5 hy_6 hy_7 hy_8 hy_9 hy_10 ⊢
 have Khx_0 := Aside0.mk hx_0
 have Khx_1 := Aside0.mk hx_1
 have Khx_2 := Aside0.mk hx_2
 have Khx_3 := Aside0.mk hx_3
 have Khx_4 := Aside0.mk hx_4
 have Khx_5 := Aside0.mk hx_5
 have Khx_6 := Aside0.mk hx_6
 have Khx_7 := Aside0.mk hx_7
 have Khx_8 := Aside0.mk hx_8
 have Khx_9 := Aside0.mk hx_9
 have Khx_10 := Aside0.mk hx_10
 have Khy_0 := Aside0.mk hy_0
 have Khy_1 := Aside0.mk hy_1
 have Khy_2 := Aside0.mk hy_2
 have Khy_3 := Aside0.mk hy_3
 have Khy_4 := Aside0.mk hy_4
 have Khy_5 := Aside0.mk hy_5
 have Khy_6 := Aside0.mk hy_6
 have Khy_7 := Aside0.mk hy_7
 have Khy_8 := Aside0.mk hy_8
 have Khy_9 := Aside0.mk hy_9
 have Khy_10 := Aside0.mk hy_10
 clear hx_0 hx_1 hx_2 hx_3 hx_4 hx_5 hx_6 hx_7 hx_8 hx_9 hx_10 hy_0 hy_1 hy_2 hy_3 hy_4 hy_5 hy_6 hy_7 hy_8 hy_9 hy_10
 have HD := Aside0.mk (Below.refl W0.heap.size W0)
 refine pure_ (i := 0) (N := some 27) (v := ?_) (a' := ?_) #[true, false, false, false, false, false, false, false, false, false, false, false] rfl rfl (any_of HT_.out (by kernel_rfl)) (fun _ _ _ h => h) (Or.inl ⟨by rfl, ?_⟩) ?_ ?_
 rotate_left
 ·intro w'
  go_simp
  with_reducible rfl
 rotate_left
 ·simp only [Act.put, List.setIfInBounds_toArray, List.set_cons_zero, List.set_cons_succ, i64_w, i32_w]
  rfl
 refine pure_ (i := 1) (N := some 28) (v := ?_) (a' := ?_) #[true, true, false, false, false, false, false, false, false, false, false, false] rfl rfl (any_of HT_.out (by kernel_rfl)) (fun _ _ _ h => h) (Or.inl ⟨by rfl, ?_⟩) ?_ ?_
 rotate_left
 ·intro w'
  go_simp
  with_reducible rfl
 rotate_left
 ·simp only [Act.put, List.setIfInBounds_toArray, List.set_cons_zero, List.set_cons_succ, i64_w, i32_w]
  rfl
 refine pure_ (i := 2) (N := some 29) (v := ?_) (a' := ?_) #[true, true, true, false, false, false, false, false, false, false, false, false] rfl rfl (any_of HT_.out (by kernel_rfl)) (fun _ _ _ h => h) (Or.inl ⟨by rfl, ?_⟩) ?_ ?_
 rotate_left
 ·intro w'
  go_simp
  with_reducible rfl
 rotate_left
 ·simp only [Act.put, List.setIfInBounds_toArray, List.set_cons_zero, List.set_cons_succ, i64_w, i32_w]
  rfl
 refine take_ (i := 3) (N := some 30) (v := ?_) (a' := ?_) #[true, true, true, true, false, false, false, false, false, false, false, false] rfl rfl (take_ofW HT_.out HW_.out (by kernel_rfl)) (fun _ _ _ h => h) (Or.inl ⟨by rfl, ?_⟩) hHeld ?_ ?_
 rotate_left
 ·rintro w' ⟨s0, s1, s2, s3, s4, s5, s6, s7, s8, s9, s10, s11, s12, s13, s14, s15, s16, s17, s18, s19, s20, s21⟩
  go_simp
  with_reducible rfl
 rotate_left
 ·simp only [Act.put, List.setIfInBounds_toArray, List.set_cons_zero, List.set_cons_succ, i64_w, i32_w]
  rfl
 refine pure_ (i := 4) (N := some 31) (v := ?_) (a' := ?_) #[true, true, true, true, true, false, false, false, false, false, false, false] rfl rfl (any_of HT_.out (by kernel_rfl)) (fun _ _ _ h => h) (Or.inl ⟨by rfl, ?_⟩) ?_ ?_
 rotate_left
 ·intro w'
  go_simp
  with_reducible rfl
 rotate_left
 ·simp only [Act.put, List.setIfInBounds_toArray, List.set_cons_zero, List.set_cons_succ, i64_w, i32_w]
  rfl
 refine pure_ (i := 5) (N := some 32) (v := ?_) (a' := ?_) #[true, true, true, true, true, true, false, false, false, false, false, false] rfl rfl (any_of HT_.out (by kernel_rfl)) (fun _ _ _ h => h) (Or.inl ⟨by rfl, ?_⟩) ?_ ?_
 rotate_left
 ·intro w'
  go_simp
  with_reducible rfl
 rotate_left
 ·simp only [Act.put, List.setIfInBounds_toArray, List.set_cons_zero, List.set_cons_succ, i64_w, i32_w]
  rfl
 refine pure_ (i := 6) (N := some 33) (v := ?_) (a' := ?_) #[true, true, true, true, true, true, true, false, false, false, false, false] rfl rfl (any_of HT_.out (by kernel_rfl)) (fun _ _ _ h => h) (Or.inl ⟨by rfl, ?_⟩) ?_ ?_
 rotate_left
 ·intro w'
  go_simp
  with_reducible rfl
 rotate_left
 ·simp only [Act.put, List.setIfInBounds_toArray, List.set_cons_zero, List.set_cons_succ, i64_w, i32_w]
  rfl
 refine take_ (i := 7) (N := some 34) (v := ?_) (a' := ?_) #[true, true, true, true, true, true, true, true, false, false, false, false] rfl rfl (take_ofW HT_.out HW_.out (by kernel_rfl)) (fun _ _ _ h => h) (Or.inl ⟨by rfl, ?_⟩) hHeld ?_ ?_
 rotate_left
 ·rintro w' ⟨s0, s1, s2, s3, s4, s5, s6, s7, s8, s9, s10, s11, s12, s13, s14, s15, s16, s17, s18, s19, s20, s21⟩
  go_simp
  with_reducible rfl
 rotate_left
 ·simp only [Act.put, List.setIfInBounds_toArray, List.set_cons_zero, List.set_cons_succ, i64_w, i32_w]
  rfl
 refine two_ (i := 8) (j := 9) (Ni := some 9) (Nj := some 10) #[true, true, true, true, true, true, true, true, true, false, false, false] #[true, true, true, true, true, true, true, true, false, true, false, false] rfl rfl rfl rfl (two_of HT_.out (by kernel_rfl)) (by decide) (by decide) (fun K hK => ?_) (fun K hK => ?_)
 focus
  refine box_step (by rfl) (N := 9) rfl (cs := #[(.string ⟨#[]⟩), (.int .i64 0), (.int .i64 0), (.int .i64 0), (.int .i64 0), (.int .i64 0), (.int .i64 0), (.int .i64 0), (.string ⟨#[]⟩), (.string ⟨#[]⟩), (.int .i64 0)]) (t := 43) ?hr ?_
  case hr => first | (go_simp; done) | (go_simp; rfl)
  intro g9 hg w_ hbox hb
  have G9 := Aside0.mk (show W0.heap.size ≤ g9 by rw [hg]; exact below_size HD.out)
  have n0_ := Aside0.mk (below_step HD.out hb)
  have n1_ := Aside0.mk hbox
  first | (have n2_ := Aside0.mk (blk_below B10.out hb); have NE := Aside0.mk (show g9 ≠ g10 by have := blk_lt B10.out; omega); clear B10; have B10 := n2_; clear n2_) | skip
  clear HD
  have HD := n0_
  have B9 := n1_
  clear n0_ n1_ hbox hg hb
  refine hK.out _ _ ⟨(HD.out.cell (World.block_lt_of_cell? _ _ Khx_0.out)).trans Khx_0.out, (HD.out.cell (World.block_lt_of_cell? _ _ Khx_1.out)).trans Khx_1.out, (HD.out.cell (World.block_lt_of_cell? _ _ Khx_2.out)).trans Khx_2.out, (HD.out.cell (World.block_lt_of_cell? _ _ Khx_3.out)).trans Khx_3.out, (HD.out.cell (World.block_lt_of_cell? _ _ Khx_4.out)).trans Khx_4.out, (HD.out.cell (World.block_lt_of_cell? _ _ Khx_5.out)).trans Khx_5.out, (HD.out.cell (World.block_lt_of_cell? _ _ Khx_6.out)).trans Khx_6.out, (HD.out.cell (World.block_lt_of_cell? _ _ Khx_7.out)).trans Khx_7.out, (HD.out.cell (World.block_lt_of_cell? _ _ Khx_8.out)).trans Khx_8.out, (HD.out.cell (World.block_lt_of_cell? _ _ Khx_9.out)).trans Khx_9.out, (HD.out.cell (World.block_lt_of_cell? _ _ Khx_10.out)).trans Khx_10.out, (HD.out.cell (World.block_lt_of_cell? _ _ Khy_0.out)).trans Khy_0.out, (HD.out.cell (World.block_lt_of_cell? _ _ Khy_1.out)).trans Khy_1.out, (HD.out.cell (World.block_lt_of_cell? _ _ Khy_2.out)).trans Khy_2.out, (HD.out.cell (World.block_lt_of_cell? _ _ Khy_3.out)).trans Khy_3.out, (HD.out.cell (World.block_lt_of_cell? _ _ Khy_4.out)).trans Khy_4.out, (HD.out.cell (World.block_lt_of_cell? _ _ Khy_5.out)).trans Khy_5.out, (HD.out.cell (World.block_lt_of_cell? _ _ Khy_6.out)).trans Khy_6.out, (HD.out.cell (World.block_lt_of_cell? _ _ Khy_7.out)).trans Khy_7.out, (HD.out.cell (World.block_lt_of_cell? _ _ Khy_8.out)).trans Khy_8.out, (HD.out.cell (World.block_lt_of_cell? _ _ Khy_9.out)).trans Khy_9.out, (HD.out.cell (World.block_lt_of_cell? _ _ Khy_10.out)).trans Khy_10.out⟩ (fun hHeld => ?_)
  clear hK K
  refine norm_ (a' := ?_) ?_ ?_
  rotate_left
  ·show Act.put _ (some 9) _ = _
   simp only [Act.put, List.setIfInBounds_toArray, List.set_cons_zero, List.set_cons_succ, i64_w, i32_w]
   rfl
  refine one_ (i := 9) (N := some 10) #[true, true, true, true, true, true, true, true, true, true, false, false] rfl rfl (one_of HT_.out (by kernel_rfl)) (by decide) (fun K hK => ?_)
  refine box_step (by rfl) (N := 10) rfl (cs := #[(.string ⟨#[]⟩), (.int .i64 0), (.int .i64 0), (.int .i64 0), (.int .i64 0), (.int .i64 0), (.int .i64 0), (.int .i64 0), (.string ⟨#[]⟩), (.string ⟨#[]⟩), (.int .i64 0)]) (t := 43) ?hr ?_
  case hr => first | (go_simp; done) | (go_simp; rfl)
  intro g10 hg w_ hbox hb
  have G10 := Aside0.mk (show W0.heap.size ≤ g10 by rw [hg]; exact below_size HD.out)
  have n0_ := Aside0.mk (below_step HD.out hb)
  have n1_ := Aside0.mk hbox
  first | (have n2_ := Aside0.mk (blk_below B9.out hb); have NE := Aside0.mk (show g9 ≠ g10 by have := blk_lt B9.out; omega); clear B9; have B9 := n2_; clear n2_) | skip
  clear HD
  have HD := n0_
  have B10 := n1_
  clear n0_ n1_ hbox hg hb
  refine hK.out _ _ ⟨(HD.out.cell (World.block_lt_of_cell? _ _ Khx_0.out)).trans Khx_0.out, (HD.out.cell (World.block_lt_of_cell? _ _ Khx_1.out)).trans Khx_1.out, (HD.out.cell (World.block_lt_of_cell? _ _ Khx_2.out)).trans Khx_2.out, (HD.out.cell (World.block_lt_of_cell? _ _ Khx_3.out)).trans Khx_3.out, (HD.out.cell (World.block_lt_of_cell? _ _ Khx_4.out)).trans Khx_4.out, (HD.out.cell (World.block_lt_of_cell? _ _ Khx_5.out)).trans Khx_5.out, (HD.out.cell (World.block_lt_of_cell? _ _ Khx_6.out)).trans Khx_6.out, (HD.out.cell (World.block_lt_of_cell? _ _ Khx_7.out)).trans Khx_7.out, (HD.out.cell (World.block_lt_of_cell? _ _ Khx_8.out)).trans Khx_8.out, (HD.out.cell (World.block_lt_of_cell? _ _ Khx_9.out)).trans Khx_9.out, (HD.out.cell (World.block_lt_of_cell? _ _ Khx_10.out)).trans Khx_10.out, (HD.out.cell (World.block_lt_of_cell? _ _ Khy_0.out)).trans Khy_0.out, (HD.out.cell (World.block_lt_of_cell? _ _ Khy_1.out)).trans Khy_1.out, (HD.out.cell (World.block_lt_of_cell? _ _ Khy_2.out)).trans Khy_2.out, (HD.out.cell (World.block_lt_of_cell? _ _ Khy_3.out)).trans Khy_3.out, (HD.out.cell (World.block_lt_of_cell? _ _ Khy_4.out)).trans Khy_4.out, (HD.out.cell (World.block_lt_of_cell? _ _ Khy_5.out)).trans Khy_5.out, (HD.out.cell (World.block_lt_of_cell? _ _ Khy_6.out)).trans Khy_6.out, (HD.out.cell (World.block_lt_of_cell? _ _ Khy_7.out)).trans Khy_7.out, (HD.out.cell (World.block_lt_of_cell? _ _ Khy_8.out)).trans Khy_8.out, (HD.out.cell (World.block_lt_of_cell? _ _ Khy_9.out)).trans Khy_9.out, (HD.out.cell (World.block_lt_of_cell? _ _ Khy_10.out)).trans Khy_10.out⟩ (fun hHeld => ?_)
  clear hK K
  refine norm_ (a' := ?_) ?_ ?_
  rotate_left
  ·show Act.put _ (some 10) _ = _
   simp only [Act.put, List.setIfInBounds_toArray, List.set_cons_zero, List.set_cons_succ, i64_w, i32_w]
   rfl
  refine one_ (i := 10) (N := none) #[true, true, true, true, true, true, true, true, true, true, true, false] rfl rfl (one_of HT_.out (by kernel_rfl)) (by decide) (fun K hK => ?_)
  refine skip_ (w1 := ?_) (by rfl) rfl ?_ ?_
  rotate_left
  ·refine (store_next (p := .pointer (some ⟨g9, 0, none⟩)) (v := .agg #[.string x.f0, .int .i64 x.f1, .int .i64 x.f2, .int .i64 x.f3.f0, .int .i64 x.f3.f1, .int .i64 x.f3.f2, .int .i64 x.f3.f3, .int .i64 x.f3.f4, .string x.f4, .string x.f5, .int .i64 x.f6]) rfl (by go_simp) (by go_simp) (box_storeX B9.out)).trans ?_; with_reducible rfl
  have n0_ := Aside0.mk (below_setRow HD.out G9.out #[.string x.f0, .int .i64 x.f1, .int .i64 x.f2, .int .i64 x.f3.f0, .int .i64 x.f3.f1, .int .i64 x.f3.f2, .int .i64 x.f3.f3, .int .i64 x.f3.f4, .string x.f4, .string x.f5, .int .i64 x.f6])
  have n1_ := Aside0.mk (setRow_heap _ g9 _ #[.string x.f0, .int .i64 x.f1, .int .i64 x.f2, .int .i64 x.f3.f0, .int .i64 x.f3.f1, .int .i64 x.f3.f2, .int .i64 x.f3.f3, .int .i64 x.f3.f4, .string x.f4, .string x.f5, .int .i64 x.f6] _ _ B9.out)
  have n2_ := Aside0.mk ((setRow_other _ g9 g10 #[.string x.f0, .int .i64 x.f1, .int .i64 x.f2, .int .i64 x.f3.f0, .int .i64 x.f3.f1, .int .i64 x.f3.f2, .int .i64 x.f3.f3, .int .i64 x.f3.f4, .string x.f4, .string x.f5, .int .i64 x.f6] NE.out.symm).trans B10.out)
  clear HD B9 B10
  have HD := n0_
  have B9 := n1_
  have B10 := n2_
  clear n0_ n1_ n2_
  refine hK.out _ _ ⟨(HD.out.cell (World.block_lt_of_cell? _ _ Khx_0.out)).trans Khx_0.out, (HD.out.cell (World.block_lt_of_cell? _ _ Khx_1.out)).trans Khx_1.out, (HD.out.cell (World.block_lt_of_cell? _ _ Khx_2.out)).trans Khx_2.out, (HD.out.cell (World.block_lt_of_cell? _ _ Khx_3.out)).trans Khx_3.out, (HD.out.cell (World.block_lt_of_cell? _ _ Khx_4.out)).trans Khx_4.out, (HD.out.cell (World.block_lt_of_cell? _ _ Khx_5.out)).trans Khx_5.out, (HD.out.cell (World.block_lt_of_cell? _ _ Khx_6.out)).trans Khx_6.out, (HD.out.cell (World.block_lt_of_cell? _ _ Khx_7.out)).trans Khx_7.out, (HD.out.cell (World.block_lt_of_cell? _ _ Khx_8.out)).trans Khx_8.out, (HD.out.cell (World.block_lt_of_cell? _ _ Khx_9.out)).trans Khx_9.out, (HD.out.cell (World.block_lt_of_cell? _ _ Khx_10.out)).trans Khx_10.out, (HD.out.cell (World.block_lt_of_cell? _ _ Khy_0.out)).trans Khy_0.out, (HD.out.cell (World.block_lt_of_cell? _ _ Khy_1.out)).trans Khy_1.out, (HD.out.cell (World.block_lt_of_cell? _ _ Khy_2.out)).trans Khy_2.out, (HD.out.cell (World.block_lt_of_cell? _ _ Khy_3.out)).trans Khy_3.out, (HD.out.cell (World.block_lt_of_cell? _ _ Khy_4.out)).trans Khy_4.out, (HD.out.cell (World.block_lt_of_cell? _ _ Khy_5.out)).trans Khy_5.out, (HD.out.cell (World.block_lt_of_cell? _ _ Khy_6.out)).trans Khy_6.out, (HD.out.cell (World.block_lt_of_cell? _ _ Khy_7.out)).trans Khy_7.out, (HD.out.cell (World.block_lt_of_cell? _ _ Khy_8.out)).trans Khy_8.out, (HD.out.cell (World.block_lt_of_cell? _ _ Khy_9.out)).trans Khy_9.out, (HD.out.cell (World.block_lt_of_cell? _ _ Khy_10.out)).trans Khy_10.out⟩ (fun hHeld => ?_)
  clear hK K
  refine one_ (i := 11) (N := none) #[true, true, true, true, true, true, true, true, true, true, true, true] rfl rfl (one_of HT_.out (by kernel_rfl)) (by decide) (fun K hK => ?_)
  refine skip_ (w1 := ?_) (by rfl) rfl ?_ ?_
  rotate_left
  ·refine (store_next (p := .pointer (some ⟨g10, 0, none⟩)) (v := .agg #[.string y.f0, .int .i64 y.f1, .int .i64 y.f2, .int .i64 y.f3.f0, .int .i64 y.f3.f1, .int .i64 y.f3.f2, .int .i64 y.f3.f3, .int .i64 y.f3.f4, .string y.f4, .string y.f5, .int .i64 y.f6]) rfl (by go_simp) (by go_simp) (box_storeY B10.out)).trans ?_; with_reducible rfl
  have n0_ := Aside0.mk (below_setRow HD.out G10.out #[.string y.f0, .int .i64 y.f1, .int .i64 y.f2, .int .i64 y.f3.f0, .int .i64 y.f3.f1, .int .i64 y.f3.f2, .int .i64 y.f3.f3, .int .i64 y.f3.f4, .string y.f4, .string y.f5, .int .i64 y.f6])
  have n1_ := Aside0.mk (setRow_heap _ g10 _ #[.string y.f0, .int .i64 y.f1, .int .i64 y.f2, .int .i64 y.f3.f0, .int .i64 y.f3.f1, .int .i64 y.f3.f2, .int .i64 y.f3.f3, .int .i64 y.f3.f4, .string y.f4, .string y.f5, .int .i64 y.f6] _ _ B10.out)
  have n2_ := Aside0.mk ((setRow_other _ g10 g9 #[.string y.f0, .int .i64 y.f1, .int .i64 y.f2, .int .i64 y.f3.f0, .int .i64 y.f3.f1, .int .i64 y.f3.f2, .int .i64 y.f3.f3, .int .i64 y.f3.f4, .string y.f4, .string y.f5, .int .i64 y.f6] NE.out).trans B9.out)
  clear HD B9 B10
  have HD := n0_
  have B10 := n1_
  have B9 := n2_
  clear n0_ n1_ n2_
  refine hK.out _ _ ⟨(HD.out.cell (World.block_lt_of_cell? _ _ Khx_0.out)).trans Khx_0.out, (HD.out.cell (World.block_lt_of_cell? _ _ Khx_1.out)).trans Khx_1.out, (HD.out.cell (World.block_lt_of_cell? _ _ Khx_2.out)).trans Khx_2.out, (HD.out.cell (World.block_lt_of_cell? _ _ Khx_3.out)).trans Khx_3.out, (HD.out.cell (World.block_lt_of_cell? _ _ Khx_4.out)).trans Khx_4.out, (HD.out.cell (World.block_lt_of_cell? _ _ Khx_5.out)).trans Khx_5.out, (HD.out.cell (World.block_lt_of_cell? _ _ Khx_6.out)).trans Khx_6.out, (HD.out.cell (World.block_lt_of_cell? _ _ Khx_7.out)).trans Khx_7.out, (HD.out.cell (World.block_lt_of_cell? _ _ Khx_8.out)).trans Khx_8.out, (HD.out.cell (World.block_lt_of_cell? _ _ Khx_9.out)).trans Khx_9.out, (HD.out.cell (World.block_lt_of_cell? _ _ Khx_10.out)).trans Khx_10.out, (HD.out.cell (World.block_lt_of_cell? _ _ Khy_0.out)).trans Khy_0.out, (HD.out.cell (World.block_lt_of_cell? _ _ Khy_1.out)).trans Khy_1.out, (HD.out.cell (World.block_lt_of_cell? _ _ Khy_2.out)).trans Khy_2.out, (HD.out.cell (World.block_lt_of_cell? _ _ Khy_3.out)).trans Khy_3.out, (HD.out.cell (World.block_lt_of_cell? _ _ Khy_4.out)).trans Khy_4.out, (HD.out.cell (World.block_lt_of_cell? _ _ Khy_5.out)).trans Khy_5.out, (HD.out.cell (World.block_lt_of_cell? _ _ Khy_6.out)).trans Khy_6.out, (HD.out.cell (World.block_lt_of_cell? _ _ Khy_7.out)).trans Khy_7.out, (HD.out.cell (World.block_lt_of_cell? _ _ Khy_8.out)).trans Khy_8.out, (HD.out.cell (World.block_lt_of_cell? _ _ Khy_9.out)).trans Khy_9.out, (HD.out.cell (World.block_lt_of_cell? _ _ Khy_10.out)).trans Khy_10.out⟩ (fun hHeld => ?_)
  clear hK K
  refine done_ (done_of HT_.out (by kernel_rfl)) ?_
 rotate_left 1
 focus
  refine box_step (by rfl) (N := 10) rfl (cs := #[(.string ⟨#[]⟩), (.int .i64 0), (.int .i64 0), (.int .i64 0), (.int .i64 0), (.int .i64 0), (.int .i64 0), (.int .i64 0), (.string ⟨#[]⟩), (.string ⟨#[]⟩), (.int .i64 0)]) (t := 43) ?hr ?_
  case hr => first | (go_simp; done) | (go_simp; rfl)
  intro g10 hg w_ hbox hb
  have G10 := Aside0.mk (show W0.heap.size ≤ g10 by rw [hg]; exact below_size HD.out)
  have n0_ := Aside0.mk (below_step HD.out hb)
  have n1_ := Aside0.mk hbox
  first | (have n2_ := Aside0.mk (blk_below B9.out hb); have NE := Aside0.mk (show g9 ≠ g10 by have := blk_lt B9.out; omega); clear B9; have B9 := n2_; clear n2_) | skip
  clear HD
  have HD := n0_
  have B10 := n1_
  clear n0_ n1_ hbox hg hb
  refine hK.out _ _ ⟨(HD.out.cell (World.block_lt_of_cell? _ _ Khx_0.out)).trans Khx_0.out, (HD.out.cell (World.block_lt_of_cell? _ _ Khx_1.out)).trans Khx_1.out, (HD.out.cell (World.block_lt_of_cell? _ _ Khx_2.out)).trans Khx_2.out, (HD.out.cell (World.block_lt_of_cell? _ _ Khx_3.out)).trans Khx_3.out, (HD.out.cell (World.block_lt_of_cell? _ _ Khx_4.out)).trans Khx_4.out, (HD.out.cell (World.block_lt_of_cell? _ _ Khx_5.out)).trans Khx_5.out, (HD.out.cell (World.block_lt_of_cell? _ _ Khx_6.out)).trans Khx_6.out, (HD.out.cell (World.block_lt_of_cell? _ _ Khx_7.out)).trans Khx_7.out, (HD.out.cell (World.block_lt_of_cell? _ _ Khx_8.out)).trans Khx_8.out, (HD.out.cell (World.block_lt_of_cell? _ _ Khx_9.out)).trans Khx_9.out, (HD.out.cell (World.block_lt_of_cell? _ _ Khx_10.out)).trans Khx_10.out, (HD.out.cell (World.block_lt_of_cell? _ _ Khy_0.out)).trans Khy_0.out, (HD.out.cell (World.block_lt_of_cell? _ _ Khy_1.out)).trans Khy_1.out, (HD.out.cell (World.block_lt_of_cell? _ _ Khy_2.out)).trans Khy_2.out, (HD.out.cell (World.block_lt_of_cell? _ _ Khy_3.out)).trans Khy_3.out, (HD.out.cell (World.block_lt_of_cell? _ _ Khy_4.out)).trans Khy_4.out, (HD.out.cell (World.block_lt_of_cell? _ _ Khy_5.out)).trans Khy_5.out, (HD.out.cell (World.block_lt_of_cell? _ _ Khy_6.out)).trans Khy_6.out, (HD.out.cell (World.block_lt_of_cell? _ _ Khy_7.out)).trans Khy_7.out, (HD.out.cell (World.block_lt_of_cell? _ _ Khy_8.out)).trans Khy_8.out, (HD.out.cell (World.block_lt_of_cell? _ _ Khy_9.out)).trans Khy_9.out, (HD.out.cell (World.block_lt_of_cell? _ _ Khy_10.out)).trans Khy_10.out⟩ (fun hHeld => ?_)
  clear hK K
  refine norm_ (a' := ?_) ?_ ?_
  rotate_left
  ·show Act.put _ (some 10) _ = _
   simp only [Act.put, List.setIfInBounds_toArray, List.set_cons_zero, List.set_cons_succ, i64_w, i32_w]
   rfl
  refine one_ (i := 8) (N := some 9) #[true, true, true, true, true, true, true, true, true, true, false, false] rfl rfl (one_of HT_.out (by kernel_rfl)) (by decide) (fun K hK => ?_)
  refine box_step (by rfl) (N := 9) rfl (cs := #[(.string ⟨#[]⟩), (.int .i64 0), (.int .i64 0), (.int .i64 0), (.int .i64 0), (.int .i64 0), (.int .i64 0), (.int .i64 0), (.string ⟨#[]⟩), (.string ⟨#[]⟩), (.int .i64 0)]) (t := 43) ?hr ?_
  case hr => first | (go_simp; done) | (go_simp; rfl)
  intro g9 hg w_ hbox hb
  have G9 := Aside0.mk (show W0.heap.size ≤ g9 by rw [hg]; exact below_size HD.out)
  have n0_ := Aside0.mk (below_step HD.out hb)
  have n1_ := Aside0.mk hbox
  first | (have n2_ := Aside0.mk (blk_below B10.out hb); have NE := Aside0.mk (show g9 ≠ g10 by have := blk_lt B10.out; omega); clear B10; have B10 := n2_; clear n2_) | skip
  clear HD
  have HD := n0_
  have B9 := n1_
  clear n0_ n1_ hbox hg hb
  refine hK.out _ _ ⟨(HD.out.cell (World.block_lt_of_cell? _ _ Khx_0.out)).trans Khx_0.out, (HD.out.cell (World.block_lt_of_cell? _ _ Khx_1.out)).trans Khx_1.out, (HD.out.cell (World.block_lt_of_cell? _ _ Khx_2.out)).trans Khx_2.out, (HD.out.cell (World.block_lt_of_cell? _ _ Khx_3.out)).trans Khx_3.out, (HD.out.cell (World.block_lt_of_cell? _ _ Khx_4.out)).trans Khx_4.out, (HD.out.cell (World.block_lt_of_cell? _ _ Khx_5.out)).trans Khx_5.out, (HD.out.cell (World.block_lt_of_cell? _ _ Khx_6.out)).trans Khx_6.out, (HD.out.cell (World.block_lt_of_cell? _ _ Khx_7.out)).trans Khx_7.out, (HD.out.cell (World.block_lt_of_cell? _ _ Khx_8.out)).trans Khx_8.out, (HD.out.cell (World.block_lt_of_cell? _ _ Khx_9.out)).trans Khx_9.out, (HD.out.cell (World.block_lt_of_cell? _ _ Khx_10.out)).trans Khx_10.out, (HD.out.cell (World.block_lt_of_cell? _ _ Khy_0.out)).trans Khy_0.out, (HD.out.cell (World.block_lt_of_cell? _ _ Khy_1.out)).trans Khy_1.out, (HD.out.cell (World.block_lt_of_cell? _ _ Khy_2.out)).trans Khy_2.out, (HD.out.cell (World.block_lt_of_cell? _ _ Khy_3.out)).trans Khy_3.out, (HD.out.cell (World.block_lt_of_cell? _ _ Khy_4.out)).trans Khy_4.out, (HD.out.cell (World.block_lt_of_cell? _ _ Khy_5.out)).trans Khy_5.out, (HD.out.cell (World.block_lt_of_cell? _ _ Khy_6.out)).trans Khy_6.out, (HD.out.cell (World.block_lt_of_cell? _ _ Khy_7.out)).trans Khy_7.out, (HD.out.cell (World.block_lt_of_cell? _ _ Khy_8.out)).trans Khy_8.out, (HD.out.cell (World.block_lt_of_cell? _ _ Khy_9.out)).trans Khy_9.out, (HD.out.cell (World.block_lt_of_cell? _ _ Khy_10.out)).trans Khy_10.out⟩ (fun hHeld => ?_)
  clear hK K
  refine norm_ (a' := ?_) ?_ ?_
  rotate_left
  ·show Act.put _ (some 9) _ = _
   simp only [Act.put, List.setIfInBounds_toArray, List.set_cons_zero, List.set_cons_succ, i64_w, i32_w]
   rfl
  refine one_ (i := 10) (N := none) #[true, true, true, true, true, true, true, true, true, true, true, false] rfl rfl (one_of HT_.out (by kernel_rfl)) (by decide) (fun K hK => ?_)
  refine skip_ (w1 := ?_) (by rfl) rfl ?_ ?_
  rotate_left
  ·refine (store_next (p := .pointer (some ⟨g9, 0, none⟩)) (v := .agg #[.string x.f0, .int .i64 x.f1, .int .i64 x.f2, .int .i64 x.f3.f0, .int .i64 x.f3.f1, .int .i64 x.f3.f2, .int .i64 x.f3.f3, .int .i64 x.f3.f4, .string x.f4, .string x.f5, .int .i64 x.f6]) rfl (by go_simp) (by go_simp) (box_storeX B9.out)).trans ?_; with_reducible rfl
  have n0_ := Aside0.mk (below_setRow HD.out G9.out #[.string x.f0, .int .i64 x.f1, .int .i64 x.f2, .int .i64 x.f3.f0, .int .i64 x.f3.f1, .int .i64 x.f3.f2, .int .i64 x.f3.f3, .int .i64 x.f3.f4, .string x.f4, .string x.f5, .int .i64 x.f6])
  have n1_ := Aside0.mk (setRow_heap _ g9 _ #[.string x.f0, .int .i64 x.f1, .int .i64 x.f2, .int .i64 x.f3.f0, .int .i64 x.f3.f1, .int .i64 x.f3.f2, .int .i64 x.f3.f3, .int .i64 x.f3.f4, .string x.f4, .string x.f5, .int .i64 x.f6] _ _ B9.out)
  have n2_ := Aside0.mk ((setRow_other _ g9 g10 #[.string x.f0, .int .i64 x.f1, .int .i64 x.f2, .int .i64 x.f3.f0, .int .i64 x.f3.f1, .int .i64 x.f3.f2, .int .i64 x.f3.f3, .int .i64 x.f3.f4, .string x.f4, .string x.f5, .int .i64 x.f6] NE.out.symm).trans B10.out)
  clear HD B9 B10
  have HD := n0_
  have B9 := n1_
  have B10 := n2_
  clear n0_ n1_ n2_
  refine hK.out _ _ ⟨(HD.out.cell (World.block_lt_of_cell? _ _ Khx_0.out)).trans Khx_0.out, (HD.out.cell (World.block_lt_of_cell? _ _ Khx_1.out)).trans Khx_1.out, (HD.out.cell (World.block_lt_of_cell? _ _ Khx_2.out)).trans Khx_2.out, (HD.out.cell (World.block_lt_of_cell? _ _ Khx_3.out)).trans Khx_3.out, (HD.out.cell (World.block_lt_of_cell? _ _ Khx_4.out)).trans Khx_4.out, (HD.out.cell (World.block_lt_of_cell? _ _ Khx_5.out)).trans Khx_5.out, (HD.out.cell (World.block_lt_of_cell? _ _ Khx_6.out)).trans Khx_6.out, (HD.out.cell (World.block_lt_of_cell? _ _ Khx_7.out)).trans Khx_7.out, (HD.out.cell (World.block_lt_of_cell? _ _ Khx_8.out)).trans Khx_8.out, (HD.out.cell (World.block_lt_of_cell? _ _ Khx_9.out)).trans Khx_9.out, (HD.out.cell (World.block_lt_of_cell? _ _ Khx_10.out)).trans Khx_10.out, (HD.out.cell (World.block_lt_of_cell? _ _ Khy_0.out)).trans Khy_0.out, (HD.out.cell (World.block_lt_of_cell? _ _ Khy_1.out)).trans Khy_1.out, (HD.out.cell (World.block_lt_of_cell? _ _ Khy_2.out)).trans Khy_2.out, (HD.out.cell (World.block_lt_of_cell? _ _ Khy_3.out)).trans Khy_3.out, (HD.out.cell (World.block_lt_of_cell? _ _ Khy_4.out)).trans Khy_4.out, (HD.out.cell (World.block_lt_of_cell? _ _ Khy_5.out)).trans Khy_5.out, (HD.out.cell (World.block_lt_of_cell? _ _ Khy_6.out)).trans Khy_6.out, (HD.out.cell (World.block_lt_of_cell? _ _ Khy_7.out)).trans Khy_7.out, (HD.out.cell (World.block_lt_of_cell? _ _ Khy_8.out)).trans Khy_8.out, (HD.out.cell (World.block_lt_of_cell? _ _ Khy_9.out)).trans Khy_9.out, (HD.out.cell (World.block_lt_of_cell? _ _ Khy_10.out)).trans Khy_10.out⟩ (fun hHeld => ?_)
  clear hK K
  refine one_ (i := 11) (N := none) #[true, true, true, true, true, true, true, true, true, true, true, true] rfl rfl (one_of HT_.out (by kernel_rfl)) (by decide) (fun K hK => ?_)
  refine skip_ (w1 := ?_) (by rfl) rfl ?_ ?_
  rotate_left
  ·refine (store_next (p := .pointer (some ⟨g10, 0, none⟩)) (v := .agg #[.string y.f0, .int .i64 y.f1, .int .i64 y.f2, .int .i64 y.f3.f0, .int .i64 y.f3.f1, .int .i64 y.f3.f2, .int .i64 y.f3.f3, .int .i64 y.f3.f4, .string y.f4, .string y.f5, .int .i64 y.f6]) rfl (by go_simp) (by go_simp) (box_storeY B10.out)).trans ?_; with_reducible rfl
  have n0_ := Aside0.mk (below_setRow HD.out G10.out #[.string y.f0, .int .i64 y.f1, .int .i64 y.f2, .int .i64 y.f3.f0, .int .i64 y.f3.f1, .int .i64 y.f3.f2, .int .i64 y.f3.f3, .int .i64 y.f3.f4, .string y.f4, .string y.f5, .int .i64 y.f6])
  have n1_ := Aside0.mk (setRow_heap _ g10 _ #[.string y.f0, .int .i64 y.f1, .int .i64 y.f2, .int .i64 y.f3.f0, .int .i64 y.f3.f1, .int .i64 y.f3.f2, .int .i64 y.f3.f3, .int .i64 y.f3.f4, .string y.f4, .string y.f5, .int .i64 y.f6] _ _ B10.out)
  have n2_ := Aside0.mk ((setRow_other _ g10 g9 #[.string y.f0, .int .i64 y.f1, .int .i64 y.f2, .int .i64 y.f3.f0, .int .i64 y.f3.f1, .int .i64 y.f3.f2, .int .i64 y.f3.f3, .int .i64 y.f3.f4, .string y.f4, .string y.f5, .int .i64 y.f6] NE.out).trans B9.out)
  clear HD B9 B10
  have HD := n0_
  have B10 := n1_
  have B9 := n2_
  clear n0_ n1_ n2_
  refine hK.out _ _ ⟨(HD.out.cell (World.block_lt_of_cell? _ _ Khx_0.out)).trans Khx_0.out, (HD.out.cell (World.block_lt_of_cell? _ _ Khx_1.out)).trans Khx_1.out, (HD.out.cell (World.block_lt_of_cell? _ _ Khx_2.out)).trans Khx_2.out, (HD.out.cell (World.block_lt_of_cell? _ _ Khx_3.out)).trans Khx_3.out, (HD.out.cell (World.block_lt_of_cell? _ _ Khx_4.out)).trans Khx_4.out, (HD.out.cell (World.block_lt_of_cell? _ _ Khx_5.out)).trans Khx_5.out, (HD.out.cell (World.block_lt_of_cell? _ _ Khx_6.out)).trans Khx_6.out, (HD.out.cell (World.block_lt_of_cell? _ _ Khx_7.out)).trans Khx_7.out, (HD.out.cell (World.block_lt_of_cell? _ _ Khx_8.out)).trans Khx_8.out, (HD.out.cell (World.block_lt_of_cell? _ _ Khx_9.out)).trans Khx_9.out, (HD.out.cell (World.block_lt_of_cell? _ _ Khx_10.out)).trans Khx_10.out, (HD.out.cell (World.block_lt_of_cell? _ _ Khy_0.out)).trans Khy_0.out, (HD.out.cell (World.block_lt_of_cell? _ _ Khy_1.out)).trans Khy_1.out, (HD.out.cell (World.block_lt_of_cell? _ _ Khy_2.out)).trans Khy_2.out, (HD.out.cell (World.block_lt_of_cell? _ _ Khy_3.out)).trans Khy_3.out, (HD.out.cell (World.block_lt_of_cell? _ _ Khy_4.out)).trans Khy_4.out, (HD.out.cell (World.block_lt_of_cell? _ _ Khy_5.out)).trans Khy_5.out, (HD.out.cell (World.block_lt_of_cell? _ _ Khy_6.out)).trans Khy_6.out, (HD.out.cell (World.block_lt_of_cell? _ _ Khy_7.out)).trans Khy_7.out, (HD.out.cell (World.block_lt_of_cell? _ _ Khy_8.out)).trans Khy_8.out, (HD.out.cell (World.block_lt_of_cell? _ _ Khy_9.out)).trans Khy_9.out, (HD.out.cell (World.block_lt_of_cell? _ _ Khy_10.out)).trans Khy_10.out⟩ (fun hHeld => ?_)
  clear hK K
  refine done_ (done_of HT_.out (by kernel_rfl)) ?_
 all_goals
  have hc9_0 := (blk_cell B9.out 0).trans (show _ = some (.string x.f0) from rfl)
  have hc9_1 := (blk_cell B9.out 1).trans (show _ = some (.int .i64 x.f1) from rfl)
  have hc9_2 := (blk_cell B9.out 2).trans (show _ = some (.int .i64 x.f2) from rfl)
  have hc9_3 := (blk_cell B9.out 3).trans (show _ = some (.int .i64 x.f3.f0) from rfl)
  have hc9_4 := (blk_cell B9.out 4).trans (show _ = some (.int .i64 x.f3.f1) from rfl)
  have hc9_5 := (blk_cell B9.out 5).trans (show _ = some (.int .i64 x.f3.f2) from rfl)
  have hc9_6 := (blk_cell B9.out 6).trans (show _ = some (.int .i64 x.f3.f3) from rfl)
  have hc9_7 := (blk_cell B9.out 7).trans (show _ = some (.int .i64 x.f3.f4) from rfl)
  have hc9_8 := (blk_cell B9.out 8).trans (show _ = some (.string x.f4) from rfl)
  have hc9_9 := (blk_cell B9.out 9).trans (show _ = some (.string x.f5) from rfl)
  have hc9_10 := (blk_cell B9.out 10).trans (show _ = some (.int .i64 x.f6) from rfl)
  have hc10_0 := (blk_cell B10.out 0).trans (show _ = some (.string y.f0) from rfl)
  have hc10_1 := (blk_cell B10.out 1).trans (show _ = some (.int .i64 y.f1) from rfl)
  have hc10_2 := (blk_cell B10.out 2).trans (show _ = some (.int .i64 y.f2) from rfl)
  have hc10_3 := (blk_cell B10.out 3).trans (show _ = some (.int .i64 y.f3.f0) from rfl)
  have hc10_4 := (blk_cell B10.out 4).trans (show _ = some (.int .i64 y.f3.f1) from rfl)
  have hc10_5 := (blk_cell B10.out 5).trans (show _ = some (.int .i64 y.f3.f2) from rfl)
  have hc10_6 := (blk_cell B10.out 6).trans (show _ = some (.int .i64 y.f3.f3) from rfl)
  have hc10_7 := (blk_cell B10.out 7).trans (show _ = some (.int .i64 y.f3.f4) from rfl)
  have hc10_8 := (blk_cell B10.out 8).trans (show _ = some (.string y.f4) from rfl)
  have hc10_9 := (blk_cell B10.out 9).trans (show _ = some (.string y.f5) from rfl)
  have hc10_10 := (blk_cell B10.out 10).trans (show _ = some (.int .i64 y.f6) from rfl)
  clear hHeld
  have HE := Aside0.mk (below_step HD0.out HD.out)
  clear HD
  have HD := HE
  clear HE
  by_cases k : x.f1 = y.f1
  ·have k_ := Aside0.mk k
   have ke : (x.f1 == y.f1) = true := beq_iff_eq.mpr (by rw [k])
   have kn : (x.f1 != y.f1) = false := bne_eq_false_iff_eq.mpr (by rw [k])
   clear k
   by_cases f : x.f1 = 1
   ·have f_ := Aside0.mk f
    have fe : (x.f1 == 1) = true := beq_iff_eq.mpr (by rw [f])
    have fn : (x.f1 != 1) = false := bne_eq_false_iff_eq.mpr (by rw [f])
    clear f
    by_cases z : x.f2 = y.f2
    ·have z_ := Aside0.mk z
     have ze : (x.f2 == y.f2) = true := beq_iff_eq.mpr (by rw [z])
     have zn : (x.f2 != y.f2) = false := bne_eq_false_iff_eq.mpr (by rw [z])
     clear z
     by_cases s : x.f5 = y.f5
     ·have s_ := Aside0.mk s
      have se : (x.f5.toList == y.f5.toList) = true := beq_iff_eq.mpr (by rw [s])
      have sn : (x.f5.toList != y.f5.toList) = false := bne_eq_false_iff_eq.mpr (by rw [s])
      clear s
      by_cases l : x.f1 = 3
      ·have l_ := Aside0.mk l
       have le : (x.f1 == 3) = true := beq_iff_eq.mpr (by rw [l])
       have ln : (x.f1 != 3) = false := bne_eq_false_iff_eq.mpr (by rw [l])
       clear l
       exact absurd (f_.out.symm.trans l_.out) (by decide)
      ·have l_ := Aside0.mk l
       have le : (x.f1 == 3) = false := beq_eq_false_iff_ne.mpr l
       have ln : (x.f1 != 3) = true := bne_iff_ne.mpr l
       clear l
       cases m0 : (x.f3.f0 == y.f3.f0) with
       | false =>
        have HR := Aside0.mk (show becameI (some x) (some y) = 4 from by rw [became_eq, if_neg (fun h => by rcases h with h | ⟨_, h | h⟩ | ⟨h, _⟩; exact h k_.out; exact h z_.out; exact h s_.out; exact l_.out h), if_neg (by unfold mEq; simp only [m0, Bool.false_and, Bool.and_false]; decide)])
        go_wp2
        go_ret
        exact ⟨by first | rfl | (rw [HR.out]; rfl), HD.out⟩
       | true =>
        cases m1 : (x.f3.f1 == y.f3.f1) with
        | false =>
         have HR := Aside0.mk (show becameI (some x) (some y) = 4 from by rw [became_eq, if_neg (fun h => by rcases h with h | ⟨_, h | h⟩ | ⟨h, _⟩; exact h k_.out; exact h z_.out; exact h s_.out; exact l_.out h), if_neg (by unfold mEq; simp only [m1, Bool.false_and, Bool.and_false]; decide)])
         go_wp2
         go_ret
         exact ⟨by first | rfl | (rw [HR.out]; rfl), HD.out⟩
        | true =>
         cases m2 : (x.f3.f2 == y.f3.f2) with
         | false =>
          have HR := Aside0.mk (show becameI (some x) (some y) = 4 from by rw [became_eq, if_neg (fun h => by rcases h with h | ⟨_, h | h⟩ | ⟨h, _⟩; exact h k_.out; exact h z_.out; exact h s_.out; exact l_.out h), if_neg (by unfold mEq; simp only [m2, Bool.false_and, Bool.and_false]; decide)])
          go_wp2
          go_ret
          exact ⟨by first | rfl | (rw [HR.out]; rfl), HD.out⟩
         | true =>
          cases m3 : (x.f3.f3 == y.f3.f3) with
          | false =>
           have HR := Aside0.mk (show becameI (some x) (some y) = 4 from by rw [became_eq, if_neg (fun h => by rcases h with h | ⟨_, h | h⟩ | ⟨h, _⟩; exact h k_.out; exact h z_.out; exact h s_.out; exact l_.out h), if_neg (by unfold mEq; simp only [m3, Bool.false_and, Bool.and_false]; decide)])
           go_wp2
           go_ret
           exact ⟨by first | rfl | (rw [HR.out]; rfl), HD.out⟩
          | true =>
           cases m4 : (x.f3.f4 == y.f3.f4) with
           | false =>
            have HR := Aside0.mk (show becameI (some x) (some y) = 4 from by rw [became_eq, if_neg (fun h => by rcases h with h | ⟨_, h | h⟩ | ⟨h, _⟩; exact h k_.out; exact h z_.out; exact h s_.out; exact l_.out h), if_neg (by unfold mEq; simp only [m4, Bool.false_and, Bool.and_false]; decide)])
            go_wp2
            go_ret
            exact ⟨by first | rfl | (rw [HR.out]; rfl), HD.out⟩
           | true =>
            have HR := Aside0.mk (show becameI (some x) (some y) = 0 from by rw [became_eq, if_neg (fun h => by rcases h with h | ⟨_, h | h⟩ | ⟨h, _⟩; exact h k_.out; exact h z_.out; exact h s_.out; exact l_.out h), if_pos (by unfold mEq; rw [m0, m1, m2, m3, m4]; rfl)])
            go_wp2
            go_ret
            exact ⟨by first | rfl | (rw [HR.out]; rfl), HD.out⟩
     ·have s_ := Aside0.mk s
      have se : (x.f5.toList == y.f5.toList) = false := beq_eq_false_iff_ne.mpr (fun e => s ((tl_eq _ _).1 e))
      have sn : (x.f5.toList != y.f5.toList) = true := bne_iff_ne.mpr (fun e => s ((tl_eq _ _).1 e))
      clear s
      have HR := Aside0.mk (show becameI (some x) (some y) = 3 from by rw [became_eq]; exact if_pos (Or.inr (Or.inl ⟨f_.out, Or.inr s_.out⟩)))
      go_wp2
      go_ret
      exact ⟨by first | rfl | (rw [HR.out]; rfl), HD.out⟩
    ·have z_ := Aside0.mk z
     have ze : (x.f2 == y.f2) = false := beq_eq_false_iff_ne.mpr z
     have zn : (x.f2 != y.f2) = true := bne_iff_ne.mpr z
     clear z
     have HR := Aside0.mk (show becameI (some x) (some y) = 3 from by rw [became_eq]; exact if_pos (Or.inr (Or.inl ⟨f_.out, Or.inl z_.out⟩)))
     go_wp2
     go_ret
     exact ⟨by first | rfl | (rw [HR.out]; rfl), HD.out⟩
   ·have f_ := Aside0.mk f
    have fe : (x.f1 == 1) = false := beq_eq_false_iff_ne.mpr f
    have fn : (x.f1 != 1) = true := bne_iff_ne.mpr f
    clear f
    by_cases l : x.f1 = 3
    ·have l_ := Aside0.mk l
     have le : (x.f1 == 3) = true := beq_iff_eq.mpr (by rw [l])
     have ln : (x.f1 != 3) = false := bne_eq_false_iff_eq.mpr (by rw [l])
     clear l
     by_cases t : x.f4 = y.f4
     ·have t_ := Aside0.mk t
      have te : (x.f4.toList == y.f4.toList) = true := beq_iff_eq.mpr (by rw [t])
      have tn : (x.f4.toList != y.f4.toList) = false := bne_eq_false_iff_eq.mpr (by rw [t])
      clear t
      cases m0 : (x.f3.f0 == y.f3.f0) with
      | false =>
       have HR := Aside0.mk (show becameI (some x) (some y) = 4 from by rw [became_eq, if_neg (fun h => by rcases h with h | ⟨h, _⟩ | ⟨_, h⟩; exact h k_.out; exact f_.out h; exact h t_.out), if_neg (by unfold mEq; simp only [m0, Bool.false_and, Bool.and_false]; decide)])
       go_wp2
       go_ret
       exact ⟨by first | rfl | (rw [HR.out]; rfl), HD.out⟩
      | true =>
       cases m1 : (x.f3.f1 == y.f3.f1) with
       | false =>
        have HR := Aside0.mk (show becameI (some x) (some y) = 4 from by rw [became_eq, if_neg (fun h => by rcases h with h | ⟨h, _⟩ | ⟨_, h⟩; exact h k_.out; exact f_.out h; exact h t_.out), if_neg (by unfold mEq; simp only [m1, Bool.false_and, Bool.and_false]; decide)])
        go_wp2
        go_ret
        exact ⟨by first | rfl | (rw [HR.out]; rfl), HD.out⟩
       | true =>
        cases m2 : (x.f3.f2 == y.f3.f2) with
        | false =>
         have HR := Aside0.mk (show becameI (some x) (some y) = 4 from by rw [became_eq, if_neg (fun h => by rcases h with h | ⟨h, _⟩ | ⟨_, h⟩; exact h k_.out; exact f_.out h; exact h t_.out), if_neg (by unfold mEq; simp only [m2, Bool.false_and, Bool.and_false]; decide)])
         go_wp2
         go_ret
         exact ⟨by first | rfl | (rw [HR.out]; rfl), HD.out⟩
        | true =>
         cases m3 : (x.f3.f3 == y.f3.f3) with
         | false =>
          have HR := Aside0.mk (show becameI (some x) (some y) = 4 from by rw [became_eq, if_neg (fun h => by rcases h with h | ⟨h, _⟩ | ⟨_, h⟩; exact h k_.out; exact f_.out h; exact h t_.out), if_neg (by unfold mEq; simp only [m3, Bool.false_and, Bool.and_false]; decide)])
          go_wp2
          go_ret
          exact ⟨by first | rfl | (rw [HR.out]; rfl), HD.out⟩
         | true =>
          cases m4 : (x.f3.f4 == y.f3.f4) with
          | false =>
           have HR := Aside0.mk (show becameI (some x) (some y) = 4 from by rw [became_eq, if_neg (fun h => by rcases h with h | ⟨h, _⟩ | ⟨_, h⟩; exact h k_.out; exact f_.out h; exact h t_.out), if_neg (by unfold mEq; simp only [m4, Bool.false_and, Bool.and_false]; decide)])
           go_wp2
           go_ret
           exact ⟨by first | rfl | (rw [HR.out]; rfl), HD.out⟩
          | true =>
           have HR := Aside0.mk (show becameI (some x) (some y) = 0 from by rw [became_eq, if_neg (fun h => by rcases h with h | ⟨h, _⟩ | ⟨_, h⟩; exact h k_.out; exact f_.out h; exact h t_.out), if_pos (by unfold mEq; rw [m0, m1, m2, m3, m4]; rfl)])
           go_wp2
           go_ret
           exact ⟨by first | rfl | (rw [HR.out]; rfl), HD.out⟩
     ·have t_ := Aside0.mk t
      have te : (x.f4.toList == y.f4.toList) = false := beq_eq_false_iff_ne.mpr (fun e => t ((tl_eq _ _).1 e))
      have tn : (x.f4.toList != y.f4.toList) = true := bne_iff_ne.mpr (fun e => t ((tl_eq _ _).1 e))
      clear t
      have HR := Aside0.mk (show becameI (some x) (some y) = 3 from by rw [became_eq]; exact if_pos (Or.inr (Or.inr ⟨l_.out, t_.out⟩)))
      go_wp2
      go_ret
      exact ⟨by first | rfl | (rw [HR.out]; rfl), HD.out⟩
    ·have l_ := Aside0.mk l
     have le : (x.f1 == 3) = false := beq_eq_false_iff_ne.mpr l
     have ln : (x.f1 != 3) = true := bne_iff_ne.mpr l
     clear l
     cases m0 : (x.f3.f0 == y.f3.f0) with
     | false =>
      have HR := Aside0.mk (show becameI (some x) (some y) = 4 from by rw [became_eq, if_neg (fun h => by rcases h with h | ⟨h, _⟩ | ⟨h, _⟩; exact h k_.out; exact f_.out h; exact l_.out h), if_neg (by unfold mEq; simp only [m0, Bool.false_and, Bool.and_false]; decide)])
      go_wp2
      go_ret
      exact ⟨by first | rfl | (rw [HR.out]; rfl), HD.out⟩
     | true =>
      cases m1 : (x.f3.f1 == y.f3.f1) with
      | false =>
       have HR := Aside0.mk (show becameI (some x) (some y) = 4 from by rw [became_eq, if_neg (fun h => by rcases h with h | ⟨h, _⟩ | ⟨h, _⟩; exact h k_.out; exact f_.out h; exact l_.out h), if_neg (by unfold mEq; simp only [m1, Bool.false_and, Bool.and_false]; decide)])
       go_wp2
       go_ret
       exact ⟨by first | rfl | (rw [HR.out]; rfl), HD.out⟩
      | true =>
       cases m2 : (x.f3.f2 == y.f3.f2) with
       | false =>
        have HR := Aside0.mk (show becameI (some x) (some y) = 4 from by rw [became_eq, if_neg (fun h => by rcases h with h | ⟨h, _⟩ | ⟨h, _⟩; exact h k_.out; exact f_.out h; exact l_.out h), if_neg (by unfold mEq; simp only [m2, Bool.false_and, Bool.and_false]; decide)])
        go_wp2
        go_ret
        exact ⟨by first | rfl | (rw [HR.out]; rfl), HD.out⟩
       | true =>
        cases m3 : (x.f3.f3 == y.f3.f3) with
        | false =>
         have HR := Aside0.mk (show becameI (some x) (some y) = 4 from by rw [became_eq, if_neg (fun h => by rcases h with h | ⟨h, _⟩ | ⟨h, _⟩; exact h k_.out; exact f_.out h; exact l_.out h), if_neg (by unfold mEq; simp only [m3, Bool.false_and, Bool.and_false]; decide)])
         go_wp2
         go_ret
         exact ⟨by first | rfl | (rw [HR.out]; rfl), HD.out⟩
        | true =>
         cases m4 : (x.f3.f4 == y.f3.f4) with
         | false =>
          have HR := Aside0.mk (show becameI (some x) (some y) = 4 from by rw [became_eq, if_neg (fun h => by rcases h with h | ⟨h, _⟩ | ⟨h, _⟩; exact h k_.out; exact f_.out h; exact l_.out h), if_neg (by unfold mEq; simp only [m4, Bool.false_and, Bool.and_false]; decide)])
          go_wp2
          go_ret
          exact ⟨by first | rfl | (rw [HR.out]; rfl), HD.out⟩
         | true =>
          have HR := Aside0.mk (show becameI (some x) (some y) = 0 from by rw [became_eq, if_neg (fun h => by rcases h with h | ⟨h, _⟩ | ⟨h, _⟩; exact h k_.out; exact f_.out h; exact l_.out h), if_pos (by unfold mEq; rw [m0, m1, m2, m3, m4]; rfl)])
          go_wp2
          go_ret
          exact ⟨by first | rfl | (rw [HR.out]; rfl), HD.out⟩
  ·have k_ := Aside0.mk k
   have ke : (x.f1 == y.f1) = false := beq_eq_false_iff_ne.mpr k
   have kn : (x.f1 != y.f1) = true := bne_iff_ne.mpr k
   clear k
   have HR := Aside0.mk (show becameI (some x) (some y) = 3 from by rw [became_eq]; exact if_pos (Or.inl k_.out))
   go_wp2
   go_ret
   exact ⟨by first | rfl | (rw [HR.out]; rfl), HD.out⟩
def remoraref43_Became.f (l0 l1 : List S43) (a2 : ByteArray) : Option Int := if l0.length ≤ 100000 ∧ l1.length ≤ 100000 then some (becR l0 l1 a2) else none
theorem remoraref43_Became.calls (A0 : Option Addr) (c0 : Nat) (l0 : List S43) (A1 : Option Addr) (c1 : Nat) (l1 : List S43) (a2 : ByteArray) (r : Int) (w : World) (hr0 : Kd.C k43 w A0 l0.length l0) (hc0 : l0.length ≤ c0) (hr1 : Kd.C k43 w A1 l1.length l1) (hc1 : l1.length ≤ c1) (h : remoraref43_Became.f l0 l1 a2 = some r) :
  Calls Try.prog 20 #[.slice A0 l0.length c0, .slice A1 l1.length c1, .string a2] w fun e w' => e = .returned (.int .i64 r) ∧ Below w.heap.size w w' := by
 unfold remoraref43_Became.f at h
 split at h
 ·rename_i hs
  obtain rfl := Option.some.inj h
  rcases rfind43_f l0 a2 hs.1 200000 (by omega) with ⟨f0, e0⟩ | ⟨i, hi, f0, e0⟩
  ·rcases rfind43_f l1 a2 hs.2 200000 (by omega) with ⟨f1, e1⟩ | ⟨j, hj, f1, e1⟩
   ·have hb : becR l0 l1 a2 = 0 := if_pos ⟨f0, f1⟩
    rw [hb]
    exact rbec_none A0 c0 l0 A1 c1 l1 a2 w hr0 hc0 hr1 hc1 hs.1 hs.2 e0 e1
   ·have hb : becR l0 l1 a2 = 1 := by
     unfold becR bec
     rw [if_neg (fun h => by rw [f1] at h; cases h.2), f0]
     rfl
    rw [hb]
    exact rbec_new j A0 c0 l0 A1 c1 l1 a2 w hr0 hc0 hr1 hc1 hs.1 hs.2 e0 e1
  ·rcases rfind43_f l1 a2 hs.2 200000 (by omega) with ⟨f1, e1⟩ | ⟨j, hj, f1, e1⟩
   ·have hb : becR l0 l1 a2 = 2 := by
     unfold becR bec
     rw [if_neg (fun h => by rw [f0] at h; cases h.1), f0, f1]
     rfl
    rw [hb]
    exact rbec_gone i A0 c0 l0 A1 c1 l1 a2 w hr0 hc0 hr1 hc1 hs.1 hs.2 e0 e1
   ·have hb : becR l0 l1 a2 = becameI (some l0[i]) (some l1[j]) := by
     unfold becR bec
     rw [if_neg (fun h => by rw [f0] at h; cases h.1), f0, f1]
    rw [hb]
    exact rbec_two A0 c0 l0 A1 c1 l1 a2 w hr0 hc0 hr1 hc1 hs.1 hs.2 l0[i] l1[j] i j hi hj rfl rfl e0 e1
 ·exact absurd h (by simp)
end Go.Proofs.Ytodbmagneaiocaa.PA
namespace Go.Proofs.Ytodbmagneaiocaa.PA
open Go.RowKit Go.Proofs.YtodbmagneaiocaaW.PrintWords Go.Proofs.YtodbmagneaiocaaW.PrintLast Go.Proofs.YtodbmagneaiocaaW.PrintMore
attribute [local go_sem] max2_int min2_int max_two min_two max_three min_three max_four min_four   -- for this text's walks alone
set_option linter.unusedVariables false
set_option linter.unusedSimpArgs false
def remoraref43_Common.l0 : Nat → List (S43) → List (S43) → List (S43) → List ByteArray → Int → Option ((List (S43)))
 | 0, _, _, _, _, _ => none
 | k + 1, x0, x1, x5, x6, x7 => if x7 < (x6.length : Int) then (if 0 ≤ x7 then ((remoraref43_find.f k x1 (rdOf ByteArray.empty x6 x7)).bind fun t105 => (if t105 ≥ 0 then ((remoraref43_Became.f x0 x1 (rdOf ByteArray.empty x6 x7)).bind fun t107 => (if t107 = 0 then ((remoraref43_find.f k x0 (rdOf ByteArray.empty x6 x7)).bind fun t109 => (if 0 ≤ t109 then (if t109 < (x0.length : Int) then (if x5.length < 1256584717458 then (remoraref43_Common.l0 k x0 x1 (x5 ++ [(⟨(rd_T43 x0 t109).f0, (rd_T43 x0 t109).f1, (rd_T43 x0 t109).f2, (⟨(rd_T43 x0 t109).f3.f0, (rd_T43 x0 t109).f3.f1, (rd_T43 x0 t109).f3.f2, (rd_T43 x0 t109).f3.f3, (rd_T43 x0 t109).f3.f4⟩ : S41), (rd_T43 x0 t109).f4, (rd_T43 x0 t109).f5, (rd_T43 x0 t109).f6⟩ : S43)]) x6 (wrap64 (x7 + 1))) else (none)) else (none)) else (none))) else (remoraref43_Common.l0 k x0 x1 x5 x6 (wrap64 (x7 + 1))))) else (remoraref43_Common.l0 k x0 x1 x5 x6 (wrap64 (x7 + 1))))) else (none)) else (some x5)
def remoraref43_Common.f (k : Nat) (l0 : List (S43)) (l1 : List (S43)) : Option ((List (S43))) := (remoraref43_paths.f k l0 ([] : List (S43))).bind fun t101 => (remoraref43_Common.l0 k l0 l1 ([] : List (S43)) t101 0)
set_option maxHeartbeats 8000000 in
set_option maxRecDepth 100000 in
theorem remoraref43_Common.calls (k : Nat) (A0 : Option Addr) (c0 : Nat) (l0 : List (S43)) (A1 : Option Addr) (c1 : Nat) (l1 : List (S43)) (r : List (S43)) (w : World) (hr0 : Kd.C k43 w A0 l0.length l0) (hc0 : l0.length ≤ c0) (hr1 : Kd.C k43 w A1 l1.length l1) (hc1 : l1.length ≤ c1) (h : remoraref43_Common.f k l0 l1 = some r) :
  Calls Try.prog 16 #[.slice A0 l0.length c0, .slice A1 l1.length c1] w fun e w' => ∃ v0_ : Value, e = .returned (v0_) ∧ Kd.R k43 43 w' w.heap.size (fun _ => True) v0_ r ∧ Below w.heap.size w w' := by
 have hu43 := Try.underlying43
 have HR0 := Aside0.mk hr0
 have HC0 := Aside0.mk hc0
 clear hr0 hc0
 have HR1 := Aside0.mk hr1
 have HC1 := Aside0.mk hc1
 clear hr1 hc1
 have HB := Aside0.mk (Below.refl w.heap.size w)
 have H : ((remoraref43_paths.f k l0 ([] : List (S43))).bind fun t101 => (remoraref43_Common.l0 k l0 l1 ([] : List (S43)) t101 0)) = some r := h
 clear h
 replace H := Option.bind_eq_some_iff.mp H
 obtain ⟨t101, A30, H⟩ := H
 replace H : (remoraref43_Common.l0 k l0 l1 ([] : List (S43)) t101 0) = some r := H
 have A3 := Aside0.mk A30
 clear A30
 have H' := Aside0.mk H
 clear H
 go_enter Try.func16, Try.ntmps16
 go_wp2_with (first | ((with_reducible refine gate_callee (f := 26) rfl ?_); refine goesL_ (some 9) rfl rfl Try.func26 (by kernel_rfl) rfl #[.slice A0 l0.length c0, .slice none 0 0] rfl (by (try simp only [List.map_toArray, List.map_cons, List.map_nil]); first | done | rfl | (simp only [List.length_drop, List.length_take]; rfl)) ?_; (refine (remoraref43_paths.calls k _ _ l0 _ _ ([] : List (S43)) t101 _ ?side1 ?side2 ?side3 ?side4 A3.out).mono ?_); (case side1 => repeat (first | exact HR0.out | (with_reducible refine Kd.C_alloc ?_ _) | (with_reducible refine Kd.C_drewN ?_ _) | (with_reducible refine Kd.C_drew ?_))); (case side2 => exact HC0.out); (case side3 => exact Kd.C_nil _ _); (case side4 => exact Nat.le_refl _); rintro e w4 ⟨v102, rfl, ho0, hb⟩; refine ⟨_, rfl, ?_⟩; have n0_ := Aside0.mk (Kd.R_lower ho0 (below_size (by repeat (first | (with_reducible first | exact HB.out | apply below_alloc | apply pw_below_drewN | apply below_drew1) | exact HB.out)))); have n1_ := Aside0.mk (below_step (by repeat (first | (with_reducible first | exact HB.out | apply below_alloc | apply pw_below_drewN | apply below_drew1) | exact HB.out)) hb); clear HB; have HO103 := n0_; have HB := n1_; clear n0_ n1_; (try clear hb); (try clear hb2); (try clear hk); (try clear hi); (try clear ho0)))
 go_loopg [5, 7] k (fun kq v5 v7 w' => ∃ (x5_1 : List (S43)) (x7_1 : Int), v7 = .int .i64 x7_1 ∧ Aside0 (remoraref43_Common.l0 kq l0 l1 x5_1 t101 x7_1 = some r) ∧ Aside0 (kq ≤ k) ∧ Aside0 (Kd.R k43 43 w' w.heap.size (fun _ => True) v5 x5_1) ∧ Aside0 (Kd.R Kd.string 9 w' w.heap.size (fun _ => True) v102 t101) ∧ Aside0 (Below w.heap.size w w'))
 case atStart => exact ⟨(([] : List (S43))), (0), (by first | rfl | (simp; done) | (simp [*]; done)), H', ⟨Nat.le_refl _⟩, ⟨by first | exact Kd.R_nil _ _ _ _ _ | exact Kd.N_nil _ _ _ _ _ | exact Kd.V_nil _ _ _ _ _ | exact Kd.Q_nil _ _ _ _ _ | exact Kd.S_nil _ _ _ _ _⟩, ⟨by (with_reducible repeat (first | apply Kd.R_alloc | apply Kd.R_drewN | apply Kd.R_drew)); exact HO103.out⟩, ⟨by repeat (first | (with_reducible first | exact HB.out | apply below_alloc | apply pw_below_drewN | apply below_drew1) | exact HB.out)⟩⟩
 case round =>
  clear H'
  try clear c1
  try clear c2
  try clear p2
  obtain ⟨x5_1, x7_1, rfl, HA, HK1, HO_5, HO_6, HB⟩ := hrel
  cases gk with
  | zero => exact absurd HA.out (by simp [remoraref43_Common.l0])
  | succ k1 =>
   have H := HA.out
   clear HA
   simp only [remoraref43_Common.l0] at H
   by_cases c5 : x7_1 < (t101.length : Int)
   ·rw [if_pos c5] at H
    have c5b0 : decide (x7_1 < (t101.length : Int)) = true := decide_eq_true c5
    clear c5
    by_cases c6 : 0 ≤ x7_1
    ·rw [if_pos c6] at H
     have c6b0 : decide (0 ≤ x7_1) = true := decide_eq_true c6
     clear c6
     replace H := Option.bind_eq_some_iff.mp H
     obtain ⟨t105, A70, H⟩ := H
     replace H : (if t105 ≥ 0 then ((remoraref43_Became.f l0 l1 (rdOf ByteArray.empty t101 x7_1)).bind fun t107 => (if t107 = 0 then ((remoraref43_find.f k1 l0 (rdOf ByteArray.empty t101 x7_1)).bind fun t109 => (if 0 ≤ t109 then (if t109 < (l0.length : Int) then (if x5_1.length < 1256584717458 then (remoraref43_Common.l0 k1 l0 l1 (x5_1 ++ [(⟨(rd_T43 l0 t109).f0, (rd_T43 l0 t109).f1, (rd_T43 l0 t109).f2, (⟨(rd_T43 l0 t109).f3.f0, (rd_T43 l0 t109).f3.f1, (rd_T43 l0 t109).f3.f2, (rd_T43 l0 t109).f3.f3, (rd_T43 l0 t109).f3.f4⟩ : S41), (rd_T43 l0 t109).f4, (rd_T43 l0 t109).f5, (rd_T43 l0 t109).f6⟩ : S43)]) t101 (wrap64 (x7_1 + 1))) else (none)) else (none)) else (none))) else (remoraref43_Common.l0 k1 l0 l1 x5_1 t101 (wrap64 (x7_1 + 1))))) else (remoraref43_Common.l0 k1 l0 l1 x5_1 t101 (wrap64 (x7_1 + 1)))) = some r := H
     have A7 := Aside0.mk A70
     clear A70
     by_cases c8 : t105 ≥ 0
     ·rw [if_pos c8] at H
      have c8b0 : decide (0 ≤ t105) = true := decide_eq_true c8
      clear c8
      replace H := Option.bind_eq_some_iff.mp H
      obtain ⟨t107, A90, H⟩ := H
      replace H : (if t107 = 0 then ((remoraref43_find.f k1 l0 (rdOf ByteArray.empty t101 x7_1)).bind fun t109 => (if 0 ≤ t109 then (if t109 < (l0.length : Int) then (if x5_1.length < 1256584717458 then (remoraref43_Common.l0 k1 l0 l1 (x5_1 ++ [(⟨(rd_T43 l0 t109).f0, (rd_T43 l0 t109).f1, (rd_T43 l0 t109).f2, (⟨(rd_T43 l0 t109).f3.f0, (rd_T43 l0 t109).f3.f1, (rd_T43 l0 t109).f3.f2, (rd_T43 l0 t109).f3.f3, (rd_T43 l0 t109).f3.f4⟩ : S41), (rd_T43 l0 t109).f4, (rd_T43 l0 t109).f5, (rd_T43 l0 t109).f6⟩ : S43)]) t101 (wrap64 (x7_1 + 1))) else (none)) else (none)) else (none))) else (remoraref43_Common.l0 k1 l0 l1 x5_1 t101 (wrap64 (x7_1 + 1)))) = some r := H
      have A9 := Aside0.mk A90
      clear A90
      by_cases c10 : t107 = 0
      ·rw [if_pos c10] at H
       have c10b0 : (t107 == 0) = true := beq_iff_eq.mpr c10
       have c10b1 : (t107 != 0) = false := bne_eq_false_iff_eq.mpr c10
       clear c10
       replace H := Option.bind_eq_some_iff.mp H
       obtain ⟨t109, A110, H⟩ := H
       replace H : (if 0 ≤ t109 then (if t109 < (l0.length : Int) then (if x5_1.length < 1256584717458 then (remoraref43_Common.l0 k1 l0 l1 (x5_1 ++ [(⟨(rd_T43 l0 t109).f0, (rd_T43 l0 t109).f1, (rd_T43 l0 t109).f2, (⟨(rd_T43 l0 t109).f3.f0, (rd_T43 l0 t109).f3.f1, (rd_T43 l0 t109).f3.f2, (rd_T43 l0 t109).f3.f3, (rd_T43 l0 t109).f3.f4⟩ : S41), (rd_T43 l0 t109).f4, (rd_T43 l0 t109).f5, (rd_T43 l0 t109).f6⟩ : S43)]) t101 (wrap64 (x7_1 + 1))) else (none)) else (none)) else (none)) = some r := H
       have A11 := Aside0.mk A110
       clear A110
       by_cases c12 : 0 ≤ t109
       ·rw [if_pos c12] at H
        have c12b0 : decide (0 ≤ t109) = true := decide_eq_true c12
        clear c12
        by_cases c13 : t109 < (l0.length : Int)
        ·rw [if_pos c13] at H
         have c13b0 : decide (t109 < (l0.length : Int)) = true := decide_eq_true c13
         clear c13
         by_cases c14 : x5_1.length < 1256584717458
         ·rw [if_pos c14] at H
          have LMc14 := Aside0.mk c14
          clear c14
          obtain ⟨y111, hy111⟩ : ∃ y_ : List (S43), y_ = (x5_1 ++ [(⟨(rd_T43 l0 t109).f0, (rd_T43 l0 t109).f1, (rd_T43 l0 t109).f2, (⟨(rd_T43 l0 t109).f3.f0, (rd_T43 l0 t109).f3.f1, (rd_T43 l0 t109).f3.f2, (rd_T43 l0 t109).f3.f3, (rd_T43 l0 t109).f3.f4⟩ : S41), (rd_T43 l0 t109).f4, (rd_T43 l0 t109).f5, (rd_T43 l0 t109).f6⟩ : S43)]) := ⟨_, rfl⟩
          replace H : (remoraref43_Common.l0 k1 l0 l1 y111 t101 (wrap64 (x7_1 + 1))) = some r := by first | (rw [hy111]; with_reducible exact H) | (have H2_ := (Option.bind_some _ _).symm.trans H; rw [hy111]; with_reducible exact H2_) | (have H2_ := (Option.bind_some _ _).symm.trans H; with_reducible exact H2_) | with_reducible exact H | (rw [hy111]; exact H) | exact H
          have Ny111 := Aside0.mk hy111
          clear hy111
          have H' := Aside0.mk H
          clear H
          obtain ⟨Ao15, co15, eo15⟩ := Kd.R_slice HO_6.out
          subst eo15
          have p104 : 0 ≤ (x7_1 : Int) := of_decide_eq_true (by first | (with_reducible assumption) | assumption)
          have q104 : x7_1 < (t101.length : Int) := of_decide_eq_true (by first | (with_reducible assumption) | assumption)
          obtain ⟨ad104, e104, hx104_0⟩ := Kd.at_string (Kd.R_reads' HO_6.out).2.2 x7_1 p104 q104
          cases e104
          replace p104 := eq_true p104
          replace q104 := eq_true q104
          go_wp2_with (first | ((with_reducible refine gate_callee (f := 28) rfl ?_); refine goesL_ (some 21) rfl rfl Try.func28 (by kernel_rfl) rfl #[.slice A1 l1.length c1, .string (rdOf ByteArray.empty t101 x7_1)] rfl (by (try simp only [List.map_toArray, List.map_cons, List.map_nil]); first | done | rfl | (simp only [List.length_drop, List.length_take]; rfl)) ?_; (with_reducible refine (remoraref43_find.calls k1 _ _ l1 (rdOf ByteArray.empty t101 x7_1) t105 _ ?side1 ?side2 A7.out).mono ?_); (case side1 => repeat (first | exact (Kd.C_below HR1.out HB.out) | (with_reducible refine Kd.C_alloc ?_ _) | (with_reducible refine Kd.C_drewN ?_ _) | (with_reducible refine Kd.C_drew ?_))); (case side2 => exact HC1.out); rintro e w' ⟨rfl, ⟨nd, rfl⟩⟩; refine ⟨_, rfl, ?_⟩; have p106 : 0 ≤ (x7_1 : Int) := of_decide_eq_true (by first | (with_reducible assumption) | assumption); have q106 : x7_1 < (t101.length : Int) := of_decide_eq_true (by first | (with_reducible assumption) | assumption); obtain ⟨ad106, e106, hx106_0⟩ := Kd.at_string (Kd.R_reads' HO_6.out).2.2 x7_1 p106 q106; obtain rfl : ad104 = ad106 := (by injection e106); replace p106 := eq_true p106; replace q106 := eq_true q106) | (go_at_call 20; (with_reducible refine (remoraref43_Became.calls _ _ l0 _ _ l1 (rdOf ByteArray.empty t101 x7_1) t107 _ ?side1 ?side2 ?side3 ?side4 A9.out).mono ?_); (case side1 => repeat (first | exact (Kd.C_below HR0.out (by repeat (first | (with_reducible first | exact HB.out | apply below_alloc | apply pw_below_drewN | apply below_drew1) | exact HB.out))) | (with_reducible refine Kd.C_alloc ?_ _) | (with_reducible refine Kd.C_drewN ?_ _) | (with_reducible refine Kd.C_drew ?_))); (case side2 => exact HC0.out); (case side3 => repeat (first | exact (Kd.C_below HR1.out (by repeat (first | (with_reducible first | exact HB.out | apply below_alloc | apply pw_below_drewN | apply below_drew1) | exact HB.out))) | (with_reducible refine Kd.C_alloc ?_ _) | (with_reducible refine Kd.C_drewN ?_ _) | (with_reducible refine Kd.C_drew ?_))); (case side4 => exact HC1.out); rintro e w16 ⟨rfl, hb⟩; have n0_ := Aside0.mk (Kd.R_below (by (with_reducible repeat (first | apply Kd.R_alloc | apply Kd.R_drewN | apply Kd.R_drew)); exact HO_5.out) hb); have n1_ := Aside0.mk (Kd.R_below (by (with_reducible repeat (first | apply Kd.R_alloc | apply Kd.R_drewN | apply Kd.R_drew)); exact HO_6.out) hb); have n2_ := Aside0.mk (below_step (by repeat (first | (with_reducible first | exact HB.out | apply below_alloc | apply pw_below_drewN | apply below_drew1) | exact HB.out)) hb); clear HO_5; clear HO_6; clear HB; have HO_5 := n0_; have HO_6 := n1_; have HB := n2_; clear n0_ n1_ n2_; (try clear hb); (try clear hb2); (try clear hk); (try clear hi); have p108 : 0 ≤ (x7_1 : Int) := of_decide_eq_true (by first | (with_reducible assumption) | assumption); have q108 : x7_1 < (t101.length : Int) := of_decide_eq_true (by first | (with_reducible assumption) | assumption); obtain ⟨ad108, e108, hx108_0⟩ := Kd.at_string (Kd.R_reads' HO_6.out).2.2 x7_1 p108 q108; obtain rfl : ad104 = ad108 := (by injection e108); replace p108 := eq_true p108; replace q108 := eq_true q108) | ((with_reducible refine gate_callee (f := 28) rfl ?_); refine goesL_ (some 40) rfl rfl Try.func28 (by kernel_rfl) rfl #[.slice A0 l0.length c0, .string (rdOf ByteArray.empty t101 x7_1)] rfl (by (try simp only [List.map_toArray, List.map_cons, List.map_nil]); first | done | rfl | (simp only [List.length_drop, List.length_take]; rfl)) ?_; (with_reducible refine (remoraref43_find.calls k1 _ _ l0 (rdOf ByteArray.empty t101 x7_1) t109 _ ?side1 ?side2 A11.out).mono ?_); (case side1 => repeat (first | exact (Kd.C_below HR0.out HB.out) | (with_reducible refine Kd.C_alloc ?_ _) | (with_reducible refine Kd.C_drewN ?_ _) | (with_reducible refine Kd.C_drew ?_))); (case side2 => exact HC0.out); rintro e w' ⟨rfl, ⟨nd, rfl⟩⟩; refine ⟨_, rfl, ?_⟩; have p110 : 0 ≤ (t109 : Int) := of_decide_eq_true (by first | (with_reducible assumption) | assumption); have q110 : t109 < (l0.length : Int) := of_decide_eq_true (by first | (with_reducible assumption) | assumption); obtain ⟨ad110, e110, hx110_0, hx110_1, hx110_2, hx110_3, hx110_4, hx110_5, hx110_6, hx110_7, hx110_8, hx110_9, hx110_10⟩ := at_T43 HR0.out t109 p110 q110; cases e110; replace hx110_0 := (HB.out.cell (World.block_lt_of_cell? w _ hx110_0)).trans hx110_0; replace hx110_1 := (HB.out.cell (World.block_lt_of_cell? w _ hx110_1)).trans hx110_1; replace hx110_2 := (HB.out.cell (World.block_lt_of_cell? w _ hx110_2)).trans hx110_2; replace hx110_3 := (HB.out.cell (World.block_lt_of_cell? w _ hx110_3)).trans hx110_3; replace hx110_4 := (HB.out.cell (World.block_lt_of_cell? w _ hx110_4)).trans hx110_4; replace hx110_5 := (HB.out.cell (World.block_lt_of_cell? w _ hx110_5)).trans hx110_5; replace hx110_6 := (HB.out.cell (World.block_lt_of_cell? w _ hx110_6)).trans hx110_6; replace hx110_7 := (HB.out.cell (World.block_lt_of_cell? w _ hx110_7)).trans hx110_7; replace hx110_8 := (HB.out.cell (World.block_lt_of_cell? w _ hx110_8)).trans hx110_8; replace hx110_9 := (HB.out.cell (World.block_lt_of_cell? w _ hx110_9)).trans hx110_9; replace hx110_10 := (HB.out.cell (World.block_lt_of_cell? w _ hx110_10)).trans hx110_10; replace p110 := eq_true p110; replace q110 := eq_true q110) | ((with_reducible refine gate_builtin (b := .append) (xs := #[.tmp 33, .tmp 43]) rfl ?_); at_builtin; refine Kd.R_append k43 (w0 := w) w.heap.size rfl (.tmp 33) (.tmp 43) 22 43 (.agg #[(.string ⟨#[]⟩), (.int .i64 0), (.int .i64 0), (.int .i64 0), (.int .i64 0), (.int .i64 0), (.int .i64 0), (.int .i64 0), (.string ⟨#[]⟩), (.string ⟨#[]⟩), (.int .i64 0)]) 112 rfl Try.underlying22 info43 rfl (by decide) (by omega) u5 x5_1 (⟨(rd_T43 l0 t109).f0, (rd_T43 l0 t109).f1, (rd_T43 l0 t109).f2, (⟨(rd_T43 l0 t109).f3.f0, (rd_T43 l0 t109).f3.f1, (rd_T43 l0 t109).f3.f2, (rd_T43 l0 t109).f3.f3, (rd_T43 l0 t109).f3.f4⟩ : S41), (rd_T43 l0 t109).f4, (rd_T43 l0 t109).f5, (rd_T43 l0 t109).f6⟩ : S43) [.string ((rd_T43 l0 t109).f0), .int .i64 ((rd_T43 l0 t109).f1), .int .i64 ((rd_T43 l0 t109).f2), .int .i64 ((rd_T43 l0 t109).f3.f0), .int .i64 ((rd_T43 l0 t109).f3.f1), .int .i64 ((rd_T43 l0 t109).f3.f2), .int .i64 ((rd_T43 l0 t109).f3.f3), .int .i64 ((rd_T43 l0 t109).f3.f4), .string ((rd_T43 l0 t109).f4), .string ((rd_T43 l0 t109).f5), .int .i64 ((rd_T43 l0 t109).f6)] (fun _ => True) (fun _ => False) rfl rfl ?aP (fun _ hk => hk.elim) ?aF ?aO ?aB ?aS ?aL ?_; (case aP => exact k43_mkM _ _ _ (⟨(rd_T43 l0 t109).f0, (rd_T43 l0 t109).f1, (rd_T43 l0 t109).f2, (⟨(rd_T43 l0 t109).f3.f0, (rd_T43 l0 t109).f3.f1, (rd_T43 l0 t109).f3.f2, (rd_T43 l0 t109).f3.f3, (rd_T43 l0 t109).f3.f4⟩ : S41), (rd_T43 l0 t109).f4, (rd_T43 l0 t109).f5, (rd_T43 l0 t109).f6⟩ : S43)); (case aB => exact (by repeat (first | (with_reducible first | exact HB.out | apply below_alloc | apply pw_below_drewN | apply below_drew1) | exact HB.out))); (case aF => exact (fun _ _ => trivial)); (case aO => exact (by (with_reducible repeat (first | apply Kd.R_alloc | apply Kd.R_drewN | apply Kd.R_drew)); exact HO_5.out)); (case aS => exact (below_size (by repeat (first | (with_reducible first | exact HB.out | apply below_alloc | apply pw_below_drewN | apply below_drew1) | exact HB.out)))); (case aL => have := LMc14.out; omega); intro v112 w17 ho hb hg hat; rw [← Ny111.out] at ho; have n0_ := Aside0.mk (Kd.R_over' (by (with_reducible repeat (first | apply Kd.R_alloc | apply Kd.R_drewN | apply Kd.R_drew)); exact HO_6.out) (Kd.R_typed (by (with_reducible repeat (first | apply Kd.R_alloc | apply Kd.R_drewN | apply Kd.R_drew)); exact HO_5.out)) (by decide) hg); have n1_ := Aside0.mk (hb); have n2_ := Aside0.mk (ho); clear HO_6; clear HB; clear HO_5; have HO_6 := n0_; have HB := n1_; have HO113 := n2_; clear n0_ n1_ n2_; clear ho hb hg hat))
          go_roundg k1
          case measure => have := HK1.out; omega
          case rel => exact ⟨(y111), (wrap64 (x7_1 + 1)), (by first | rfl | (simp; done) | (simp [*]; done)), H', ⟨by have := HK1.out; omega⟩, ⟨by (with_reducible repeat (first | apply Kd.R_alloc | apply Kd.R_drewN | apply Kd.R_drew)); exact HO113.out⟩, ⟨by (with_reducible repeat (first | apply Kd.R_alloc | apply Kd.R_drewN | apply Kd.R_drew)); exact HO_6.out⟩, ⟨by repeat (first | (with_reducible first | exact HB.out | apply below_alloc | apply pw_below_drewN | apply below_drew1) | exact HB.out)⟩⟩
         ·rw [if_neg c14] at H
          exact absurd H (by simp)
        ·rw [if_neg c13] at H
         exact absurd H (by simp)
       ·rw [if_neg c12] at H
        exact absurd H (by simp)
      ·rw [if_neg c10] at H
       have c10b0 : (t107 == 0) = false := beq_eq_false_iff_ne.mpr c10
       have c10b1 : (t107 != 0) = true := bne_iff_ne.mpr c10
       have H' := Aside0.mk H
       clear H
       obtain ⟨Ao18, co18, eo18⟩ := Kd.R_slice HO_6.out
       subst eo18
       have p104 : 0 ≤ (x7_1 : Int) := of_decide_eq_true (by first | (with_reducible assumption) | assumption)
       have q104 : x7_1 < (t101.length : Int) := of_decide_eq_true (by first | (with_reducible assumption) | assumption)
       obtain ⟨ad104, e104, hx104_0⟩ := Kd.at_string (Kd.R_reads' HO_6.out).2.2 x7_1 p104 q104
       cases e104
       replace p104 := eq_true p104
       replace q104 := eq_true q104
       go_wp2_with (first | ((with_reducible refine gate_callee (f := 28) rfl ?_); refine goesL_ (some 21) rfl rfl Try.func28 (by kernel_rfl) rfl #[.slice A1 l1.length c1, .string (rdOf ByteArray.empty t101 x7_1)] rfl (by (try simp only [List.map_toArray, List.map_cons, List.map_nil]); first | done | rfl | (simp only [List.length_drop, List.length_take]; rfl)) ?_; (with_reducible refine (remoraref43_find.calls k1 _ _ l1 (rdOf ByteArray.empty t101 x7_1) t105 _ ?side1 ?side2 A7.out).mono ?_); (case side1 => repeat (first | exact (Kd.C_below HR1.out HB.out) | (with_reducible refine Kd.C_alloc ?_ _) | (with_reducible refine Kd.C_drewN ?_ _) | (with_reducible refine Kd.C_drew ?_))); (case side2 => exact HC1.out); rintro e w' ⟨rfl, ⟨nd, rfl⟩⟩; refine ⟨_, rfl, ?_⟩; have p106 : 0 ≤ (x7_1 : Int) := of_decide_eq_true (by first | (with_reducible assumption) | assumption); have q106 : x7_1 < (t101.length : Int) := of_decide_eq_true (by first | (with_reducible assumption) | assumption); obtain ⟨ad106, e106, hx106_0⟩ := Kd.at_string (Kd.R_reads' HO_6.out).2.2 x7_1 p106 q106; obtain rfl : ad104 = ad106 := (by injection e106); replace p106 := eq_true p106; replace q106 := eq_true q106) | (go_at_call 20; (with_reducible refine (remoraref43_Became.calls _ _ l0 _ _ l1 (rdOf ByteArray.empty t101 x7_1) t107 _ ?side1 ?side2 ?side3 ?side4 A9.out).mono ?_); (case side1 => repeat (first | exact (Kd.C_below HR0.out (by repeat (first | (with_reducible first | exact HB.out | apply below_alloc | apply pw_below_drewN | apply below_drew1) | exact HB.out))) | (with_reducible refine Kd.C_alloc ?_ _) | (with_reducible refine Kd.C_drewN ?_ _) | (with_reducible refine Kd.C_drew ?_))); (case side2 => exact HC0.out); (case side3 => repeat (first | exact (Kd.C_below HR1.out (by repeat (first | (with_reducible first | exact HB.out | apply below_alloc | apply pw_below_drewN | apply below_drew1) | exact HB.out))) | (with_reducible refine Kd.C_alloc ?_ _) | (with_reducible refine Kd.C_drewN ?_ _) | (with_reducible refine Kd.C_drew ?_))); (case side4 => exact HC1.out); rintro e w19 ⟨rfl, hb⟩; have n0_ := Aside0.mk (Kd.R_below (by (with_reducible repeat (first | apply Kd.R_alloc | apply Kd.R_drewN | apply Kd.R_drew)); exact HO_5.out) hb); have n1_ := Aside0.mk (Kd.R_below (by (with_reducible repeat (first | apply Kd.R_alloc | apply Kd.R_drewN | apply Kd.R_drew)); exact HO_6.out) hb); have n2_ := Aside0.mk (below_step (by repeat (first | (with_reducible first | exact HB.out | apply below_alloc | apply pw_below_drewN | apply below_drew1) | exact HB.out)) hb); clear HO_5; clear HO_6; clear HB; have HO_5 := n0_; have HO_6 := n1_; have HB := n2_; clear n0_ n1_ n2_; (try clear hb); (try clear hb2); (try clear hk); (try clear hi)))
       go_roundg k1
       case measure => have := HK1.out; omega
       case rel => exact ⟨(x5_1), (wrap64 (x7_1 + 1)), (by first | rfl | (simp; done) | (simp [*]; done)), H', ⟨by have := HK1.out; omega⟩, ⟨by (with_reducible repeat (first | apply Kd.R_alloc | apply Kd.R_drewN | apply Kd.R_drew)); exact HO_5.out⟩, ⟨by (with_reducible repeat (first | apply Kd.R_alloc | apply Kd.R_drewN | apply Kd.R_drew)); exact HO_6.out⟩, ⟨by repeat (first | (with_reducible first | exact HB.out | apply below_alloc | apply pw_below_drewN | apply below_drew1) | exact HB.out)⟩⟩
     ·rw [if_neg c8] at H
      have c8b0 : decide (0 ≤ t105) = false := decide_eq_false c8
      clear c8
      have H' := Aside0.mk H
      clear H
      obtain ⟨Ao20, co20, eo20⟩ := Kd.R_slice HO_6.out
      subst eo20
      have p104 : 0 ≤ (x7_1 : Int) := of_decide_eq_true (by first | (with_reducible assumption) | assumption)
      have q104 : x7_1 < (t101.length : Int) := of_decide_eq_true (by first | (with_reducible assumption) | assumption)
      obtain ⟨ad104, e104, hx104_0⟩ := Kd.at_string (Kd.R_reads' HO_6.out).2.2 x7_1 p104 q104
      cases e104
      replace p104 := eq_true p104
      replace q104 := eq_true q104
      go_wp2_with (first | ((with_reducible refine gate_callee (f := 28) rfl ?_); refine goesL_ (some 21) rfl rfl Try.func28 (by kernel_rfl) rfl #[.slice A1 l1.length c1, .string (rdOf ByteArray.empty t101 x7_1)] rfl (by (try simp only [List.map_toArray, List.map_cons, List.map_nil]); first | done | rfl | (simp only [List.length_drop, List.length_take]; rfl)) ?_; (with_reducible refine (remoraref43_find.calls k1 _ _ l1 (rdOf ByteArray.empty t101 x7_1) t105 _ ?side1 ?side2 A7.out).mono ?_); (case side1 => repeat (first | exact (Kd.C_below HR1.out HB.out) | (with_reducible refine Kd.C_alloc ?_ _) | (with_reducible refine Kd.C_drewN ?_ _) | (with_reducible refine Kd.C_drew ?_))); (case side2 => exact HC1.out); rintro e w' ⟨rfl, ⟨nd, rfl⟩⟩; refine ⟨_, rfl, ?_⟩))
      go_roundg k1
      case measure => have := HK1.out; omega
      case rel => exact ⟨(x5_1), (wrap64 (x7_1 + 1)), (by first | rfl | (simp; done) | (simp [*]; done)), H', ⟨by have := HK1.out; omega⟩, ⟨by (with_reducible repeat (first | apply Kd.R_alloc | apply Kd.R_drewN | apply Kd.R_drew)); exact HO_5.out⟩, ⟨by (with_reducible repeat (first | apply Kd.R_alloc | apply Kd.R_drewN | apply Kd.R_drew)); exact HO_6.out⟩, ⟨by repeat (first | (with_reducible first | exact HB.out | apply below_alloc | apply pw_below_drewN | apply below_drew1) | exact HB.out)⟩⟩
    ·rw [if_neg c6] at H
     exact absurd H (by simp)
   ·rw [if_neg c5] at H
    have c5b0 : decide (x7_1 < (t101.length : Int)) = false := decide_eq_false c5
    clear c5
    obtain rfl := Option.some.inj H
    obtain ⟨Ao21, co21, eo21⟩ := Kd.R_slice HO_6.out
    subst eo21
    go_wp2
    go_ret
    exact ⟨_, by first | rfl | (simp [errW_none, errW_some] <;> rfl) | (simp [*, errW_none, errW_some] <;> rfl), by (with_reducible repeat (first | apply Kd.R_alloc | apply Kd.R_drewN | apply Kd.R_drew)); exact HO_5.out, by repeat (first | (with_reducible first | exact HB.out | apply below_alloc | apply pw_below_drewN | apply below_drew1) | exact HB.out)⟩
end Go.Proofs.Ytodbmagneaiocaa.PA
namespace Go.Proofs.Ytodbmagneaiocaa.PA
open Go.RowKit Go.Proofs.YtodbmagneaiocaaW.PrintWords Go.Proofs.YtodbmagneaiocaaW.PrintLast Go.Proofs.YtodbmagneaiocaaW.PrintMore
attribute [local go_sem] max2_int min2_int max_two min_two max_three min_three max_four min_four   -- for this text's walks alone
set_option linter.unusedVariables false
set_option linter.unusedSimpArgs false
def remoraref43_Since.l0 : Nat → List (S43) → List (S43) → List (S50) → List ByteArray → Int → Option ((List (S50)))
 | 0, _, _, _, _, _ => none
 | k + 1, x0, x1, x5, x6, x7 => if x7 < (x6.length : Int) then (if 0 ≤ x7 then ((remoraref43_Became.f x0 x1 (rdOf ByteArray.empty x6 x7)).bind fun t105 => (if t105 > 0 then (if x5.length < 5864062014805 then (remoraref43_Since.l0 k x0 x1 (x5 ++ [(⟨rdOf ByteArray.empty x6 x7, t105⟩ : S50)]) x6 (wrap64 (x7 + 1))) else (none)) else (remoraref43_Since.l0 k x0 x1 x5 x6 (wrap64 (x7 + 1))))) else (none)) else (some x5)
def remoraref43_Since.f (k : Nat) (l0 : List (S43)) (l1 : List (S43)) : Option ((List (S50))) := (remoraref43_paths.f k l0 l1).bind fun t101 => (remoraref43_Since.l0 k l0 l1 ([] : List (S50)) t101 0)
set_option maxHeartbeats 8000000 in
set_option maxRecDepth 100000 in
theorem remoraref43_Since.calls (k : Nat) (A0 : Option Addr) (c0 : Nat) (l0 : List (S43)) (A1 : Option Addr) (c1 : Nat) (l1 : List (S43)) (r : List (S50)) (w : World) (hr0 : Kd.C k43 w A0 l0.length l0) (hc0 : l0.length ≤ c0) (hr1 : Kd.C k43 w A1 l1.length l1) (hc1 : l1.length ≤ c1) (h : remoraref43_Since.f k l0 l1 = some r) :
  Calls Try.prog 13 #[.slice A0 l0.length c0, .slice A1 l1.length c1] w fun e w' => ∃ v0_ : Value, e = .returned (v0_) ∧ Kd.R k50 50 w' w.heap.size (fun _ => True) v0_ r ∧ Below w.heap.size w w' := by
 have hu50 := Try.underlying50
 have HR0 := Aside0.mk hr0
 have HC0 := Aside0.mk hc0
 clear hr0 hc0
 have HR1 := Aside0.mk hr1
 have HC1 := Aside0.mk hc1
 clear hr1 hc1
 have HB := Aside0.mk (Below.refl w.heap.size w)
 have H : ((remoraref43_paths.f k l0 l1).bind fun t101 => (remoraref43_Since.l0 k l0 l1 ([] : List (S50)) t101 0)) = some r := h
 clear h
 replace H := Option.bind_eq_some_iff.mp H
 obtain ⟨t101, A30, H⟩ := H
 replace H : (remoraref43_Since.l0 k l0 l1 ([] : List (S50)) t101 0) = some r := H
 have A3 := Aside0.mk A30
 clear A30
 have H' := Aside0.mk H
 clear H
 go_enter Try.func13, Try.ntmps13
 go_wp2_with (first | ((with_reducible refine gate_callee (f := 26) rfl ?_); refine goesL_ (some 11) rfl rfl Try.func26 (by kernel_rfl) rfl #[.slice A0 l0.length c0, .slice A1 l1.length c1] rfl (by (try simp only [List.map_toArray, List.map_cons, List.map_nil]); first | done | rfl | (simp only [List.length_drop, List.length_take]; rfl)) ?_; (with_reducible refine (remoraref43_paths.calls k _ _ l0 _ _ l1 t101 _ ?side1 ?side2 ?side3 ?side4 A3.out).mono ?_); (case side1 => repeat (first | exact HR0.out | (with_reducible refine Kd.C_alloc ?_ _) | (with_reducible refine Kd.C_drewN ?_ _) | (with_reducible refine Kd.C_drew ?_))); (case side2 => exact HC0.out); (case side3 => repeat (first | exact HR1.out | (with_reducible refine Kd.C_alloc ?_ _) | (with_reducible refine Kd.C_drewN ?_ _) | (with_reducible refine Kd.C_drew ?_))); (case side4 => exact HC1.out); rintro e w4 ⟨v102, rfl, ho0, hb⟩; refine ⟨_, rfl, ?_⟩; have n0_ := Aside0.mk (Kd.R_lower ho0 (below_size (by repeat (first | (with_reducible first | exact HB.out | apply below_alloc | apply pw_below_drewN | apply below_drew1) | exact HB.out)))); have n1_ := Aside0.mk (below_step (by repeat (first | (with_reducible first | exact HB.out | apply below_alloc | apply pw_below_drewN | apply below_drew1) | exact HB.out)) hb); clear HB; have HO103 := n0_; have HB := n1_; clear n0_ n1_; (try clear hb); (try clear hb2); (try clear hk); (try clear hi); (try clear ho0)))
 go_loopg [5, 7] k (fun kq v5 v7 w' => ∃ (x5_1 : List (S50)) (x7_1 : Int), v7 = .int .i64 x7_1 ∧ Aside0 (remoraref43_Since.l0 kq l0 l1 x5_1 t101 x7_1 = some r) ∧ Aside0 (kq ≤ k) ∧ Aside0 (Kd.R k50 50 w' w.heap.size (fun _ => True) v5 x5_1) ∧ Aside0 (Kd.R Kd.string 9 w' w.heap.size (fun _ => True) v102 t101) ∧ Aside0 (Below w.heap.size w w'))
 case atStart => exact ⟨(([] : List (S50))), (0), (by first | rfl | (simp; done) | (simp [*]; done)), H', ⟨Nat.le_refl _⟩, ⟨by first | exact Kd.R_nil _ _ _ _ _ | exact Kd.N_nil _ _ _ _ _ | exact Kd.V_nil _ _ _ _ _ | exact Kd.Q_nil _ _ _ _ _ | exact Kd.S_nil _ _ _ _ _⟩, ⟨by (with_reducible repeat (first | apply Kd.R_alloc | apply Kd.R_drewN | apply Kd.R_drew)); exact HO103.out⟩, ⟨by repeat (first | (with_reducible first | exact HB.out | apply below_alloc | apply pw_below_drewN | apply below_drew1) | exact HB.out)⟩⟩
 case round =>
  clear H'
  try clear c1
  try clear c2
  try clear p2
  obtain ⟨x5_1, x7_1, rfl, HA, HK1, HO_5, HO_6, HB⟩ := hrel
  cases gk with
  | zero => exact absurd HA.out (by simp [remoraref43_Since.l0])
  | succ k1 =>
   have H := HA.out
   clear HA
   simp only [remoraref43_Since.l0] at H
   by_cases c5 : x7_1 < (t101.length : Int)
   ·rw [if_pos c5] at H
    have c5b0 : decide (x7_1 < (t101.length : Int)) = true := decide_eq_true c5
    clear c5
    by_cases c6 : 0 ≤ x7_1
    ·rw [if_pos c6] at H
     have c6b0 : decide (0 ≤ x7_1) = true := decide_eq_true c6
     clear c6
     replace H := Option.bind_eq_some_iff.mp H
     obtain ⟨t105, A70, H⟩ := H
     replace H : (if t105 > 0 then (if x5_1.length < 5864062014805 then (remoraref43_Since.l0 k1 l0 l1 (x5_1 ++ [(⟨rdOf ByteArray.empty t101 x7_1, t105⟩ : S50)]) t101 (wrap64 (x7_1 + 1))) else (none)) else (remoraref43_Since.l0 k1 l0 l1 x5_1 t101 (wrap64 (x7_1 + 1)))) = some r := H
     have A7 := Aside0.mk A70
     clear A70
     by_cases c8 : t105 > 0
     ·rw [if_pos c8] at H
      have c8b0 : decide (0 < t105) = true := decide_eq_true c8
      clear c8
      by_cases c9 : x5_1.length < 5864062014805
      ·rw [if_pos c9] at H
       have LMc9 := Aside0.mk c9
       clear c9
       obtain ⟨y107, hy107⟩ : ∃ y_ : List (S50), y_ = (x5_1 ++ [(⟨rdOf ByteArray.empty t101 x7_1, t105⟩ : S50)]) := ⟨_, rfl⟩
       replace H : (remoraref43_Since.l0 k1 l0 l1 y107 t101 (wrap64 (x7_1 + 1))) = some r := by first | (rw [hy107]; with_reducible exact H) | (have H2_ := (Option.bind_some _ _).symm.trans H; rw [hy107]; with_reducible exact H2_) | (have H2_ := (Option.bind_some _ _).symm.trans H; with_reducible exact H2_) | with_reducible exact H | (rw [hy107]; exact H) | exact H
       have Ny107 := Aside0.mk hy107
       clear hy107
       have H' := Aside0.mk H
       clear H
       obtain ⟨Ao10, co10, eo10⟩ := Kd.R_slice HO_6.out
       subst eo10
       have p104 : 0 ≤ (x7_1 : Int) := of_decide_eq_true (by first | (with_reducible assumption) | assumption)
       have q104 : x7_1 < (t101.length : Int) := of_decide_eq_true (by first | (with_reducible assumption) | assumption)
       obtain ⟨ad104, e104, hx104_0⟩ := Kd.at_string (Kd.R_reads' HO_6.out).2.2 x7_1 p104 q104
       cases e104
       replace p104 := eq_true p104
       replace q104 := eq_true q104
       go_wp2_with (first | ((with_reducible refine gate_callee (f := 20) rfl ?_); refine goesL_ (some 24) rfl rfl Try.func20 (by kernel_rfl) rfl #[.slice A0 l0.length c0, .slice A1 l1.length c1, .string (rdOf ByteArray.empty t101 x7_1)] rfl (by (try simp only [List.map_toArray, List.map_cons, List.map_nil]); first | done | rfl | (simp only [List.length_drop, List.length_take]; rfl)) ?_; (with_reducible refine (remoraref43_Became.calls _ _ l0 _ _ l1 (rdOf ByteArray.empty t101 x7_1) t105 _ ?side1 ?side2 ?side3 ?side4 A7.out).mono ?_); (case side1 => repeat (first | exact (Kd.C_below HR0.out HB.out) | (with_reducible refine Kd.C_alloc ?_ _) | (with_reducible refine Kd.C_drewN ?_ _) | (with_reducible refine Kd.C_drew ?_))); (case side2 => exact HC0.out); (case side3 => repeat (first | exact (Kd.C_below HR1.out HB.out) | (with_reducible refine Kd.C_alloc ?_ _) | (with_reducible refine Kd.C_drewN ?_ _) | (with_reducible refine Kd.C_drew ?_))); (case side4 => exact HC1.out); rintro e w11 ⟨rfl, hb⟩; refine ⟨_, rfl, ?_⟩; have n0_ := Aside0.mk (Kd.R_below (by (with_reducible repeat (first | apply Kd.R_alloc | apply Kd.R_drewN | apply Kd.R_drew)); exact HO_5.out) hb); have n1_ := Aside0.mk (Kd.R_below (by (with_reducible repeat (first | apply Kd.R_alloc | apply Kd.R_drewN | apply Kd.R_drew)); exact HO_6.out) hb); have n2_ := Aside0.mk (below_step (by repeat (first | (with_reducible first | exact HB.out | apply below_alloc | apply pw_below_drewN | apply below_drew1) | exact HB.out)) hb); clear HO_5; clear HO_6; clear HB; have HO_5 := n0_; have HO_6 := n1_; have HB := n2_; clear n0_ n1_ n2_; (try clear hb); (try clear hb2); (try clear hk); (try clear hi); have p106 : 0 ≤ (x7_1 : Int) := of_decide_eq_true (by first | (with_reducible assumption) | assumption); have q106 : x7_1 < (t101.length : Int) := of_decide_eq_true (by first | (with_reducible assumption) | assumption); obtain ⟨ad106, e106, hx106_0⟩ := Kd.at_string (Kd.R_reads' HO_6.out).2.2 x7_1 p106 q106; obtain rfl : ad104 = ad106 := (by injection e106); replace p106 := eq_true p106; replace q106 := eq_true q106) | ((with_reducible refine gate_builtin (b := .append) (xs := #[.tmp 27, .tmp 34]) rfl ?_); at_builtin; refine Kd.R_append k50 (w0 := w) w.heap.size rfl (.tmp 27) (.tmp 34) 30 50 (.agg #[(.string ⟨#[]⟩), (.int .i64 0)]) 24 rfl Try.underlying30 info50 rfl (by decide) (by omega) u5 x5_1 (⟨rdOf ByteArray.empty t101 x7_1, t105⟩ : S50) [.string (rdOf ByteArray.empty t101 x7_1), .int .i64 t105] (fun _ => True) (fun _ => False) rfl rfl ?aP (fun _ hk => hk.elim) ?aF ?aO ?aB ?aS ?aL ?_; (case aP => exact k50_mkM _ _ _ (⟨rdOf ByteArray.empty t101 x7_1, t105⟩ : S50)); (case aB => exact (by repeat (first | (with_reducible first | exact HB.out | apply below_alloc | apply pw_below_drewN | apply below_drew1) | exact HB.out))); (case aF => exact (fun _ _ => trivial)); (case aO => exact (by (with_reducible repeat (first | apply Kd.R_alloc | apply Kd.R_drewN | apply Kd.R_drew)); exact HO_5.out)); (case aS => exact (below_size (by repeat (first | (with_reducible first | exact HB.out | apply below_alloc | apply pw_below_drewN | apply below_drew1) | exact HB.out)))); (case aL => have := LMc9.out; omega); intro v108 w12 ho hb hg hat; rw [← Ny107.out] at ho; have n0_ := Aside0.mk (Kd.R_over' (by (with_reducible repeat (first | apply Kd.R_alloc | apply Kd.R_drewN | apply Kd.R_drew)); exact HO_6.out) (Kd.R_typed (by (with_reducible repeat (first | apply Kd.R_alloc | apply Kd.R_drewN | apply Kd.R_drew)); exact HO_5.out)) (by decide) hg); have n1_ := Aside0.mk (hb); have n2_ := Aside0.mk (ho); clear HO_6; clear HB; clear HO_5; have HO_6 := n0_; have HB := n1_; have HO109 := n2_; clear n0_ n1_ n2_; clear ho hb hg hat))
       go_roundg k1
       case measure => have := HK1.out; omega
       case rel => exact ⟨(y107), (wrap64 (x7_1 + 1)), (by first | rfl | (simp; done) | (simp [*]; done)), H', ⟨by have := HK1.out; omega⟩, ⟨by (with_reducible repeat (first | apply Kd.R_alloc | apply Kd.R_drewN | apply Kd.R_drew)); exact HO109.out⟩, ⟨by (with_reducible repeat (first | apply Kd.R_alloc | apply Kd.R_drewN | apply Kd.R_drew)); exact HO_6.out⟩, ⟨by repeat (first | (with_reducible first | exact HB.out | apply below_alloc | apply pw_below_drewN | apply below_drew1) | exact HB.out)⟩⟩
      ·rw [if_neg c9] at H
       exact absurd H (by simp)
     ·rw [if_neg c8] at H
      have c8b0 : decide (0 < t105) = false := decide_eq_false c8
      clear c8
      have H' := Aside0.mk H
      clear H
      obtain ⟨Ao13, co13, eo13⟩ := Kd.R_slice HO_6.out
      subst eo13
      have p104 : 0 ≤ (x7_1 : Int) := of_decide_eq_true (by first | (with_reducible assumption) | assumption)
      have q104 : x7_1 < (t101.length : Int) := of_decide_eq_true (by first | (with_reducible assumption) | assumption)
      obtain ⟨ad104, e104, hx104_0⟩ := Kd.at_string (Kd.R_reads' HO_6.out).2.2 x7_1 p104 q104
      cases e104
      replace p104 := eq_true p104
      replace q104 := eq_true q104
      go_wp2_with (first | ((with_reducible refine gate_callee (f := 20) rfl ?_); refine goesL_ (some 24) rfl rfl Try.func20 (by kernel_rfl) rfl #[.slice A0 l0.length c0, .slice A1 l1.length c1, .string (rdOf ByteArray.empty t101 x7_1)] rfl (by (try simp only [List.map_toArray, List.map_cons, List.map_nil]); first | done | rfl | (simp only [List.length_drop, List.length_take]; rfl)) ?_; (with_reducible refine (remoraref43_Became.calls _ _ l0 _ _ l1 (rdOf ByteArray.empty t101 x7_1) t105 _ ?side1 ?side2 ?side3 ?side4 A7.out).mono ?_); (case side1 => repeat (first | exact (Kd.C_below HR0.out HB.out) | (with_reducible refine Kd.C_alloc ?_ _) | (with_reducible refine Kd.C_drewN ?_ _) | (with_reducible refine Kd.C_drew ?_))); (case side2 => exact HC0.out); (case side3 => repeat (first | exact (Kd.C_below HR1.out HB.out) | (with_reducible refine Kd.C_alloc ?_ _) | (with_reducible refine Kd.C_drewN ?_ _) | (with_reducible refine Kd.C_drew ?_))); (case side4 => exact HC1.out); rintro e w14 ⟨rfl, hb⟩; refine ⟨_, rfl, ?_⟩; have n0_ := Aside0.mk (Kd.R_below (by (with_reducible repeat (first | apply Kd.R_alloc | apply Kd.R_drewN | apply Kd.R_drew)); exact HO_5.out) hb); have n1_ := Aside0.mk (Kd.R_below (by (with_reducible repeat (first | apply Kd.R_alloc | apply Kd.R_drewN | apply Kd.R_drew)); exact HO_6.out) hb); have n2_ := Aside0.mk (below_step (by repeat (first | (with_reducible first | exact HB.out | apply below_alloc | apply pw_below_drewN | apply below_drew1) | exact HB.out)) hb); clear HO_5; clear HO_6; clear HB; have HO_5 := n0_; have HO_6 := n1_; have HB := n2_; clear n0_ n1_ n2_; (try clear hb); (try clear hb2); (try clear hk); (try clear hi)))
      go_roundg k1
      case measure => have := HK1.out; omega
      case rel => exact ⟨(x5_1), (wrap64 (x7_1 + 1)), (by first | rfl | (simp; done) | (simp [*]; done)), H', ⟨by have := HK1.out; omega⟩, ⟨by (with_reducible repeat (first | apply Kd.R_alloc | apply Kd.R_drewN | apply Kd.R_drew)); exact HO_5.out⟩, ⟨by (with_reducible repeat (first | apply Kd.R_alloc | apply Kd.R_drewN | apply Kd.R_drew)); exact HO_6.out⟩, ⟨by repeat (first | (with_reducible first | exact HB.out | apply below_alloc | apply pw_below_drewN | apply below_drew1) | exact HB.out)⟩⟩
    ·rw [if_neg c6] at H
     exact absurd H (by simp)
   ·rw [if_neg c5] at H
    have c5b0 : decide (x7_1 < (t101.length : Int)) = false := decide_eq_false c5
    clear c5
    obtain rfl := Option.some.inj H
    obtain ⟨Ao15, co15, eo15⟩ := Kd.R_slice HO_6.out
    subst eo15
    go_wp2
    go_ret
    exact ⟨_, by first | rfl | (simp [errW_none, errW_some] <;> rfl) | (simp [*, errW_none, errW_some] <;> rfl), by (with_reducible repeat (first | apply Kd.R_alloc | apply Kd.R_drewN | apply Kd.R_drew)); exact HO_5.out, by repeat (first | (with_reducible first | exact HB.out | apply below_alloc | apply pw_below_drewN | apply below_drew1) | exact HB.out)⟩
end Go.Proofs.Ytodbmagneaiocaa.PA
namespace Go.Proofs.Ytodbmagneaiocaa.PA
open Go.RowKit Go.Proofs.YtodbmagneaiocaaW.PrintWords Go.Proofs.YtodbmagneaiocaaW.PrintLast Go.Proofs.YtodbmagneaiocaaW.PrintMore
attribute [local go_sem] max2_int min2_int max_two min_two max_three min_three max_four min_four   -- for this text's walks alone
set_option linter.unusedVariables false
set_option linter.unusedSimpArgs false
def arch_before.f (k : Nat) (a0 : ByteArray) (a1 : ByteArray) : Option (Bool) := (path_Less.f k a0 a1).bind fun t101 => (some t101)
set_option maxHeartbeats 8000000 in
set_option maxRecDepth 100000 in
theorem arch_before.calls (k : Nat) (a0 : ByteArray) (a1 : ByteArray) (r : Bool) (w : World) (h : arch_before.f k a0 a1 = some r) :
  Calls Try.prog 30 #[.string a0, .string a1] w fun e w' => e = .returned (.bool r) ∧ Below w.heap.size w w' := by
 have HB := Aside0.mk (Below.refl w.heap.size w)
 have H : ((path_Less.f k a0 a1).bind fun t101 => (some t101)) = some r := h
 clear h
 replace H := Option.bind_eq_some_iff.mp H
 obtain ⟨t101, A30, H⟩ := H
 replace H : (some t101) = some r := H
 have A3 := Aside0.mk A30
 clear A30
 obtain rfl := Option.some.inj H
 go_enter Try.func30, Try.ntmps30
 go_wp2_with (first | ((with_reducible refine gate_callee (f := 33) rfl ?_); refine goesL_ (some 7) rfl rfl Try.func33 (by kernel_rfl) rfl #[.string a0, .string a1] rfl (by (try simp only [List.map_toArray, List.map_cons, List.map_nil]); first | done | rfl | (simp only [List.length_drop, List.length_take]; rfl)) ?_; (with_reducible refine (path_Less.calls k a0 a1 t101 _ A3.out).mono ?_); rintro e w4 ⟨rfl, hb⟩; refine ⟨_, rfl, ?_⟩; have n0_ := Aside0.mk (below_step (by repeat (first | (with_reducible first | exact HB.out | apply below_alloc | apply pw_below_drewN | apply below_drew1) | exact HB.out)) hb); clear HB; have HB := n0_; clear n0_; (try clear hb); (try clear hb2); (try clear hk); (try clear hi)))
 go_ret
 exact ⟨by first | rfl | (simp [errW_none, errW_some] <;> rfl) | (simp [*, errW_none, errW_some] <;> rfl), by repeat (first | (with_reducible first | exact HB.out | apply below_alloc | apply pw_below_drewN | apply below_drew1) | exact HB.out)⟩
end Go.Proofs.Ytodbmagneaiocaa.PA
namespace Go.Proofs.Ytodbmagneaiocaa.PA
open Go.RowKit Go.Proofs.YtodbmagneaiocaaW.PrintWords Go.Proofs.YtodbmagneaiocaaW.PrintLast Go.Proofs.YtodbmagneaiocaaW.PrintMore
attribute [local go_sem] max2_int min2_int max_two min_two max_three min_three max_four min_four   -- for this text's walks alone
set_option linter.unusedVariables false
set_option linter.unusedSimpArgs false
def arch_pathOf.f (a0_0 : ByteArray) (a0_1 : Int) (a0_2 : Int) (a0_3 : Int) (a0_4 : Int) (a0_5 : Int) (a0_6 : Int) (a0_7 : Int) (a0_8 : ByteArray) (a0_9 : ByteArray) (a0_10 : Int) : Option (ByteArray) := some a0_0
set_option maxHeartbeats 8000000 in
set_option maxRecDepth 100000 in
theorem arch_pathOf.calls (a0_0 : ByteArray) (a0_1 : Int) (a0_2 : Int) (a0_3 : Int) (a0_4 : Int) (a0_5 : Int) (a0_6 : Int) (a0_7 : Int) (a0_8 : ByteArray) (a0_9 : ByteArray) (a0_10 : Int) (r : ByteArray) (w : World) (h : arch_pathOf.f a0_0 a0_1 a0_2 a0_3 a0_4 a0_5 a0_6 a0_7 a0_8 a0_9 a0_10 = some r) :
  Calls Try.prog 23 #[.agg #[.string a0_0, .int .i64 a0_1, .int .i64 a0_2, .int .i64 a0_3, .int .i64 a0_4, .int .i64 a0_5, .int .i64 a0_6, .int .i64 a0_7, .string a0_8, .string a0_9, .int .i64 a0_10]] w fun e w' => e = .returned (.string r) ∧ Below w.heap.size w w' := by
 have hu43 := Try.underlying43
 have HB := Aside0.mk (Below.refl w.heap.size w)
 have H : (some a0_0) = some r := h
 clear h
 obtain rfl := Option.some.inj H
 go_enter Try.func23, Try.ntmps23
 go_wp2_with (first | ((with_reducible refine gate_dst (N := 1) rfl ?_); refine box_event ?hg (N := 1) ?hd (cs := #[.string a0_0, .int .i64 a0_1, .int .i64 a0_2, .int .i64 a0_3, .int .i64 a0_4, .int .i64 a0_5, .int .i64 a0_6, .int .i64 a0_7, .string a0_8, .string a0_9, .int .i64 a0_10]) (t := 43) ?hr ?_; (case hd => rfl); (case hg => rfl); (case hr => first | (go_simp; done) | (go_simp; rfl)); intro gb101 hg w2 hbox hb; have n0_ := Aside0.mk (below_step (by repeat (first | (with_reducible first | exact HB.out | apply below_alloc | apply pw_below_drewN | apply below_drew1) | exact HB.out)) hb); have n1_ := Aside0.mk (hbox); have n2_ := Aside0.mk ((by rw [hg]; exact (below_size (by repeat (first | (with_reducible first | exact HB.out | apply below_alloc | apply pw_below_drewN | apply below_drew1) | exact HB.out))) : w.heap.size ≤ gb101)); have n3_ := Aside0.mk ((by rw [hg]; exact (below_size (by repeat (first | (with_reducible first | exact HB.out | apply below_alloc | apply pw_below_drewN | apply below_drew1) | exact HB.out))) : w.heap.size ≤ gb101)); clear HB; have HB := n0_; have BK101 := n1_; have GW101 := n2_; have GE101 := n3_; clear n0_ n1_ n2_ n3_; clear hb hbox hg; have hcz3_0 : w2.cell? ⟨gb101, 0, none⟩ = some (.string a0_0) := (blk_cell BK101.out 0).trans rfl; have hcz3_1 : w2.cell? ⟨gb101, 1, none⟩ = some (.int .i64 a0_1) := (blk_cell BK101.out 1).trans rfl; have hcz3_2 : w2.cell? ⟨gb101, 2, none⟩ = some (.int .i64 a0_2) := (blk_cell BK101.out 2).trans rfl; have hcz3_3 : w2.cell? ⟨gb101, 3, none⟩ = some (.int .i64 a0_3) := (blk_cell BK101.out 3).trans rfl; have hcz3_4 : w2.cell? ⟨gb101, 4, none⟩ = some (.int .i64 a0_4) := (blk_cell BK101.out 4).trans rfl; have hcz3_5 : w2.cell? ⟨gb101, 5, none⟩ = some (.int .i64 a0_5) := (blk_cell BK101.out 5).trans rfl; have hcz3_6 : w2.cell? ⟨gb101, 6, none⟩ = some (.int .i64 a0_6) := (blk_cell BK101.out 6).trans rfl; have hcz3_7 : w2.cell? ⟨gb101, 7, none⟩ = some (.int .i64 a0_7) := (blk_cell BK101.out 7).trans rfl; have hcz3_8 : w2.cell? ⟨gb101, 8, none⟩ = some (.string a0_8) := (blk_cell BK101.out 8).trans rfl; have hcz3_9 : w2.cell? ⟨gb101, 9, none⟩ = some (.string a0_9) := (blk_cell BK101.out 9).trans rfl; have hcz3_10 : w2.cell? ⟨gb101, 10, none⟩ = some (.int .i64 a0_10) := (blk_cell BK101.out 10).trans rfl; have hfz3_0 := blk_frozen BK101.out 0; have hfz3_1 := blk_frozen BK101.out 1; have hfz3_2 := blk_frozen BK101.out 2; have hfz3_3 := blk_frozen BK101.out 3; have hfz3_4 := blk_frozen BK101.out 4; have hfz3_5 := blk_frozen BK101.out 5; have hfz3_6 := blk_frozen BK101.out 6; have hfz3_7 := blk_frozen BK101.out 7; have hfz3_8 := blk_frozen BK101.out 8; have hfz3_9 := blk_frozen BK101.out 9; have hfz3_10 := blk_frozen BK101.out 10))
 go_ret
 exact ⟨by first | rfl | (simp [errW_none, errW_some] <;> rfl) | (simp [*, errW_none, errW_some] <;> rfl), by repeat (first | (with_reducible first | exact HB.out | apply below_alloc | apply pw_below_drewN | apply below_drew1 | refine below_set ?_ GE101.out) | exact HB.out)⟩
end Go.Proofs.Ytodbmagneaiocaa.PA
