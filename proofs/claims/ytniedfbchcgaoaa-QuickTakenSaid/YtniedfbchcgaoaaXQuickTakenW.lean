/- The walk of the law QuickTaken, out of the contracts of what it calls. -/
import Derived.Test.YtniedfbchcgaoaaPAx0
import Derived.Test.YtniedfbchcgaoaaXB3
import Derived.Test.YtniedfbchcgaoaaXB3put
namespace Go.Proofs.Ytniedfbchcgaoaa.PA
open Go.RowKit Go.Proofs.YtniedfbchcgaoaaW.PrintWords Go.Proofs.YtniedfbchcgaoaaW.PrintLast Go.Proofs.YtniedfbchcgaoaaW.PrintMore
attribute [local go_sem] max2_int min2_int max_two min_two max_three min_three max_four min_four
set_option linter.unusedVariables false
set_option linter.unusedSimpArgs false
set_option maxHeartbeats 2000000 in
set_option maxRecDepth 100000 in
theorem quickTaken_a (S D O : Array Value) (hS : S.size = 11) (hD : D.size = 11) (hO : O.size = 21) (m0 m1 m2 m3 m4 n0 n1 n2 n3 n4 : Int) (hS3 : S[3]'(by omega) = .int .i64 m0) (hS4 : S[4]'(by omega) = .int .i64 m1) (hS5 : S[5]'(by omega) = .int .i64 m2) (hS6 : S[6]'(by omega) = .int .i64 m3) (hS7 : S[7]'(by omega) = .int .i64 m4) (hD3 : D[3]'(by omega) = .int .i64 n0) (hD4 : D[4]'(by omega) = .int .i64 n1) (hD5 : D[5]'(by omega) = .int .i64 n2) (hD6 : D[6]'(by omega) = .int .i64 n3) (hD7 : D[7]'(by omega) = .int .i64 n4)
    (hc1 : Aside0 (∀ w, Calls Try.prog 19 #[.agg #[.int .i64 m0, .int .i64 m1, .int .i64 m2, .int .i64 m3, .int .i64 m4]] w fun e w' => e = .returned (.int .i64 2) ∧ Below w.heap.size w w'))
    (ha : Aside0 (∀ w, Calls Try.prog 12 #[] w fun e w' => e = .returned (.bool true) ∧ Below w.heap.size w w')) (w : World) : Calls Try.prog 8 #[.agg S, .agg D, .agg O] w fun e w' => e = .returned (.bool true) ∧ Below w.heap.size w w' := by
  have hu1 := Try.underlying25
  have hu2 := Try.underlying27
  have hu3 := Try.underlying23
  have i1 := Aside0.mk (show (Try.prog.info? 25).map (·.size) = some S.size by rw [hS]; kernel_rfl)
  have i2 := Aside0.mk (show (Try.prog.info? 25).map (·.size) = some D.size by rw [hD]; kernel_rfl)
  have i3 := Aside0.mk (show (Try.prog.info? 27).map (·.size) = some O.size by rw [hO]; kernel_rfl)
  have HD := Aside0.mk (B3.start 25 25 27 w S D O)
  go_enter Try.func8, Try.ntmps8
  go_wp2_with fail
  refine (hc1.out _).mono ?_
  rintro e w1 ⟨rfl, hb⟩
  have HB1 := Aside0.mk (B3.step HD.out hb)
  clear HD hb
  have HD := HB1
  clear HB1
  go_wp2_with fail
  refine (ha.out _).mono ?_
  rintro e w1 ⟨rfl, hb⟩
  have HB1 := Aside0.mk (B3.step HD.out hb)
  clear HD hb
  have HD := HB1
  clear HB1
  go_wp2
  go_ret
  exact ⟨rfl, HD.out.1⟩
set_option maxHeartbeats 2000000 in
set_option maxRecDepth 100000 in
theorem quickTaken_b (S D O : Array Value) (hS : S.size = 11) (hD : D.size = 11) (hO : O.size = 21) (m0 m1 m2 m3 m4 n0 n1 n2 n3 n4 : Int) (hS3 : S[3]'(by omega) = .int .i64 m0) (hS4 : S[4]'(by omega) = .int .i64 m1) (hS5 : S[5]'(by omega) = .int .i64 m2) (hS6 : S[6]'(by omega) = .int .i64 m3) (hS7 : S[7]'(by omega) = .int .i64 m4) (hD3 : D[3]'(by omega) = .int .i64 n0) (hD4 : D[4]'(by omega) = .int .i64 n1) (hD5 : D[5]'(by omega) = .int .i64 n2) (hD6 : D[6]'(by omega) = .int .i64 n3) (hD7 : D[7]'(by omega) = .int .i64 n4)
    (hc1 : Aside0 (∀ w, Calls Try.prog 19 #[.agg #[.int .i64 m0, .int .i64 m1, .int .i64 m2, .int .i64 m3, .int .i64 m4]] w fun e w' => e = .returned (.int .i64 0) ∧ Below w.heap.size w w'))
    (hc2 : Aside0 (∀ w, Calls Try.prog 19 #[.agg #[.int .i64 n0, .int .i64 n1, .int .i64 n2, .int .i64 n3, .int .i64 n4]] w fun e w' => e = .returned (.int .i64 2) ∧ Below w.heap.size w w'))
    (ha : Aside0 (∀ w, Calls Try.prog 12 #[] w fun e w' => e = .returned (.bool true) ∧ Below w.heap.size w w')) (w : World) : Calls Try.prog 8 #[.agg S, .agg D, .agg O] w fun e w' => e = .returned (.bool true) ∧ Below w.heap.size w w' := by
  have hu1 := Try.underlying25
  have hu2 := Try.underlying27
  have hu3 := Try.underlying23
  have i1 := Aside0.mk (show (Try.prog.info? 25).map (·.size) = some S.size by rw [hS]; kernel_rfl)
  have i2 := Aside0.mk (show (Try.prog.info? 25).map (·.size) = some D.size by rw [hD]; kernel_rfl)
  have i3 := Aside0.mk (show (Try.prog.info? 27).map (·.size) = some O.size by rw [hO]; kernel_rfl)
  have HD := Aside0.mk (B3.start 25 25 27 w S D O)
  go_enter Try.func8, Try.ntmps8
  go_wp2_with fail
  refine (hc1.out _).mono ?_
  rintro e w1 ⟨rfl, hb⟩
  have HB1 := Aside0.mk (B3.step HD.out hb)
  clear HD hb
  have HD := HB1
  clear HB1
  have cS3 : w1.cell? ⟨w.heap.size, 3, none⟩ = some (S[3]'(by omega)) := (blk_cell HD.out.2.1 3).trans (Array.getElem?_eq_getElem (by omega))
  have cD3 : w1.cell? ⟨w.heap.size + 1, 3, none⟩ = some (D[3]'(by omega)) := (blk_cell HD.out.2.2.1 3).trans (Array.getElem?_eq_getElem (by omega))
  have cS4 : w1.cell? ⟨w.heap.size, 4, none⟩ = some (S[4]'(by omega)) := (blk_cell HD.out.2.1 4).trans (Array.getElem?_eq_getElem (by omega))
  have cD4 : w1.cell? ⟨w.heap.size + 1, 4, none⟩ = some (D[4]'(by omega)) := (blk_cell HD.out.2.2.1 4).trans (Array.getElem?_eq_getElem (by omega))
  have cS5 : w1.cell? ⟨w.heap.size, 5, none⟩ = some (S[5]'(by omega)) := (blk_cell HD.out.2.1 5).trans (Array.getElem?_eq_getElem (by omega))
  have cD5 : w1.cell? ⟨w.heap.size + 1, 5, none⟩ = some (D[5]'(by omega)) := (blk_cell HD.out.2.2.1 5).trans (Array.getElem?_eq_getElem (by omega))
  have cS6 : w1.cell? ⟨w.heap.size, 6, none⟩ = some (S[6]'(by omega)) := (blk_cell HD.out.2.1 6).trans (Array.getElem?_eq_getElem (by omega))
  have cD6 : w1.cell? ⟨w.heap.size + 1, 6, none⟩ = some (D[6]'(by omega)) := (blk_cell HD.out.2.2.1 6).trans (Array.getElem?_eq_getElem (by omega))
  have cS7 : w1.cell? ⟨w.heap.size, 7, none⟩ = some (S[7]'(by omega)) := (blk_cell HD.out.2.1 7).trans (Array.getElem?_eq_getElem (by omega))
  have cD7 : w1.cell? ⟨w.heap.size + 1, 7, none⟩ = some (D[7]'(by omega)) := (blk_cell HD.out.2.2.1 7).trans (Array.getElem?_eq_getElem (by omega))
  go_wp2_with fail
  refine (hc2.out _).mono ?_
  clear cS3 cD3 cS4 cD4 cS5 cD5 cS6 cD6 cS7 cD7
  rintro e w1 ⟨rfl, hb⟩
  have HB1 := Aside0.mk (B3.step HD.out hb)
  clear HD hb
  have HD := HB1
  clear HB1
  go_wp2_with fail
  refine (ha.out _).mono ?_
  rintro e w1 ⟨rfl, hb⟩
  have HB1 := Aside0.mk (B3.step HD.out hb)
  clear HD hb
  have HD := HB1
  clear HB1
  go_wp2
  go_ret
  exact ⟨rfl, HD.out.1⟩
set_option maxHeartbeats 2000000 in
set_option maxRecDepth 100000 in
theorem quickTaken_c (S D O : Array Value) (hS : S.size = 11) (hD : D.size = 11) (hO : O.size = 21) (m0 m1 m2 m3 m4 n0 n1 n2 n3 n4 : Int) (hS3 : S[3]'(by omega) = .int .i64 m0) (hS4 : S[4]'(by omega) = .int .i64 m1) (hS5 : S[5]'(by omega) = .int .i64 m2) (hS6 : S[6]'(by omega) = .int .i64 m3) (hS7 : S[7]'(by omega) = .int .i64 m4) (hD3 : D[3]'(by omega) = .int .i64 n0) (hD4 : D[4]'(by omega) = .int .i64 n1) (hD5 : D[5]'(by omega) = .int .i64 n2) (hD6 : D[6]'(by omega) = .int .i64 n3) (hD7 : D[7]'(by omega) = .int .i64 n4) (t0 t1 t2 t3 t4 was d : Int) (tm : Bool) (hO8 : O[8]'(by omega) = .bool tm) (h48 : (Go.bits .and .i64 d 48 != 0) = false) (h8 : tm = true → (Go.bits .and .i64 d 8 != 0) = false) (hl : (Go.bits .and .i64 d 198 == Go.bits .and .i64 was 198) = true)
    (hc1 : Aside0 (∀ w, Calls Try.prog 19 #[.agg #[.int .i64 m0, .int .i64 m1, .int .i64 m2, .int .i64 m3, .int .i64 m4]] w fun e w' => e = .returned (.int .i64 0) ∧ Below w.heap.size w w'))
    (hc2 : Aside0 (∀ w, Calls Try.prog 19 #[.agg #[.int .i64 n0, .int .i64 n1, .int .i64 n2, .int .i64 n3, .int .i64 n4]] w fun e w' => e = .returned (.int .i64 0) ∧ Below w.heap.size w w'))
    (hd1 : Aside0 (∀ w, Calls Try.prog 10 #[.agg S, .agg D, .agg O] w fun e w' => e = .returned (.int .i64 was) ∧ Below w.heap.size w w'))
    (htk : Aside0 (∀ w, Calls Try.prog 20 #[.agg #[.int .i64 m0, .int .i64 m1, .int .i64 m2, .int .i64 m3, .int .i64 m4], .agg #[.int .i64 n0, .int .i64 n1, .int .i64 n2, .int .i64 n3, .int .i64 n4], .agg O] w fun e w' => e = .returned (.agg #[.int .i64 t0, .int .i64 t1, .int .i64 t2, .int .i64 t3, .int .i64 t4]) ∧ Below w.heap.size w w'))
    (hd2 : Aside0 (∀ w, Calls Try.prog 10 #[.agg S, .agg (((((D.setIfInBounds 3 (.int .i64 t0)).setIfInBounds 4 (.int .i64 t1)).setIfInBounds 5 (.int .i64 t2)).setIfInBounds 6 (.int .i64 t3)).setIfInBounds 7 (.int .i64 t4)), .agg O] w fun e w' => e = .returned (.int .i64 d) ∧ Below w.heap.size w w'))
    (ha : Aside0 (∀ w, Calls Try.prog 12 #[] w fun e w' => e = .returned (.bool true) ∧ Below w.heap.size w w')) (w : World) : Calls Try.prog 8 #[.agg S, .agg D, .agg O] w fun e w' => e = .returned (.bool true) ∧ Below w.heap.size w w' := by
  have i4 := Aside0.mk (show (Try.prog.info? 25).map (·.size) = some (((((D.setIfInBounds 3 (.int .i64 t0)).setIfInBounds 4 (.int .i64 t1)).setIfInBounds 5 (.int .i64 t2)).setIfInBounds 6 (.int .i64 t3)).setIfInBounds 7 (.int .i64 t4)).size by simp only [Array.size_setIfInBounds, hD]; kernel_rfl)
  have hu1 := Try.underlying25
  have hu2 := Try.underlying27
  have hu3 := Try.underlying23
  have i1 := Aside0.mk (show (Try.prog.info? 25).map (·.size) = some S.size by rw [hS]; kernel_rfl)
  have i2 := Aside0.mk (show (Try.prog.info? 25).map (·.size) = some D.size by rw [hD]; kernel_rfl)
  have i3 := Aside0.mk (show (Try.prog.info? 27).map (·.size) = some O.size by rw [hO]; kernel_rfl)
  have HD := Aside0.mk (B3.start 25 25 27 w S D O)
  go_enter Try.func8, Try.ntmps8
  go_wp2_with fail
  refine (hc1.out _).mono ?_
  rintro e w1 ⟨rfl, hb⟩
  have HB1 := Aside0.mk (B3.step HD.out hb)
  clear HD hb
  have HD := HB1
  clear HB1
  have cS3 : w1.cell? ⟨w.heap.size, 3, none⟩ = some (S[3]'(by omega)) := (blk_cell HD.out.2.1 3).trans (Array.getElem?_eq_getElem (by omega))
  have cD3 : w1.cell? ⟨w.heap.size + 1, 3, none⟩ = some (D[3]'(by omega)) := (blk_cell HD.out.2.2.1 3).trans (Array.getElem?_eq_getElem (by omega))
  have cS4 : w1.cell? ⟨w.heap.size, 4, none⟩ = some (S[4]'(by omega)) := (blk_cell HD.out.2.1 4).trans (Array.getElem?_eq_getElem (by omega))
  have cD4 : w1.cell? ⟨w.heap.size + 1, 4, none⟩ = some (D[4]'(by omega)) := (blk_cell HD.out.2.2.1 4).trans (Array.getElem?_eq_getElem (by omega))
  have cS5 : w1.cell? ⟨w.heap.size, 5, none⟩ = some (S[5]'(by omega)) := (blk_cell HD.out.2.1 5).trans (Array.getElem?_eq_getElem (by omega))
  have cD5 : w1.cell? ⟨w.heap.size + 1, 5, none⟩ = some (D[5]'(by omega)) := (blk_cell HD.out.2.2.1 5).trans (Array.getElem?_eq_getElem (by omega))
  have cS6 : w1.cell? ⟨w.heap.size, 6, none⟩ = some (S[6]'(by omega)) := (blk_cell HD.out.2.1 6).trans (Array.getElem?_eq_getElem (by omega))
  have cD6 : w1.cell? ⟨w.heap.size + 1, 6, none⟩ = some (D[6]'(by omega)) := (blk_cell HD.out.2.2.1 6).trans (Array.getElem?_eq_getElem (by omega))
  have cS7 : w1.cell? ⟨w.heap.size, 7, none⟩ = some (S[7]'(by omega)) := (blk_cell HD.out.2.1 7).trans (Array.getElem?_eq_getElem (by omega))
  have cD7 : w1.cell? ⟨w.heap.size + 1, 7, none⟩ = some (D[7]'(by omega)) := (blk_cell HD.out.2.2.1 7).trans (Array.getElem?_eq_getElem (by omega))
  go_wp2_with fail
  refine (hc2.out _).mono ?_
  clear cS3 cD3 cS4 cD4 cS5 cD5 cS6 cD6 cS7 cD7
  rintro e w1 ⟨rfl, hb⟩
  have HB1 := Aside0.mk (B3.step HD.out hb)
  clear HD hb
  have HD := HB1
  clear HB1
  go_wp2_with (first | ((with_reducible refine gate_dst (N := 21) rfl ?_); refine wpList_load_row rfl 25 (.tmp 3) rfl (w.heap.size) rfl 25 S (0, 0) _ HD.out.2.1 hu1 rfl i1.out ?_) | ((with_reducible refine gate_dst (N := 22) rfl ?_); refine wpList_load_row rfl 25 (.tmp 4) rfl (w.heap.size + 1) rfl 25 D (0, 0) _ HD.out.2.2.1 hu1 rfl i2.out ?_) | ((with_reducible refine gate_dst (N := 23) rfl ?_); refine wpList_load_row rfl 27 (.tmp 5) rfl (w.heap.size + 1 + 1) rfl 27 O (0, 0) _ HD.out.2.2.2 hu2 rfl i3.out ?_))
  refine (hd1.out _).mono ?_
  rintro e w1 ⟨rfl, hb⟩
  have HB1 := Aside0.mk (B3.step HD.out hb)
  clear HD hb
  have HD := HB1
  clear HB1
  have cS3 : w1.cell? ⟨w.heap.size, 3, none⟩ = some (S[3]'(by omega)) := (blk_cell HD.out.2.1 3).trans (Array.getElem?_eq_getElem (by omega))
  have cD3 : w1.cell? ⟨w.heap.size + 1, 3, none⟩ = some (D[3]'(by omega)) := (blk_cell HD.out.2.2.1 3).trans (Array.getElem?_eq_getElem (by omega))
  have cS4 : w1.cell? ⟨w.heap.size, 4, none⟩ = some (S[4]'(by omega)) := (blk_cell HD.out.2.1 4).trans (Array.getElem?_eq_getElem (by omega))
  have cD4 : w1.cell? ⟨w.heap.size + 1, 4, none⟩ = some (D[4]'(by omega)) := (blk_cell HD.out.2.2.1 4).trans (Array.getElem?_eq_getElem (by omega))
  have cS5 : w1.cell? ⟨w.heap.size, 5, none⟩ = some (S[5]'(by omega)) := (blk_cell HD.out.2.1 5).trans (Array.getElem?_eq_getElem (by omega))
  have cD5 : w1.cell? ⟨w.heap.size + 1, 5, none⟩ = some (D[5]'(by omega)) := (blk_cell HD.out.2.2.1 5).trans (Array.getElem?_eq_getElem (by omega))
  have cS6 : w1.cell? ⟨w.heap.size, 6, none⟩ = some (S[6]'(by omega)) := (blk_cell HD.out.2.1 6).trans (Array.getElem?_eq_getElem (by omega))
  have cD6 : w1.cell? ⟨w.heap.size + 1, 6, none⟩ = some (D[6]'(by omega)) := (blk_cell HD.out.2.2.1 6).trans (Array.getElem?_eq_getElem (by omega))
  have cS7 : w1.cell? ⟨w.heap.size, 7, none⟩ = some (S[7]'(by omega)) := (blk_cell HD.out.2.1 7).trans (Array.getElem?_eq_getElem (by omega))
  have cD7 : w1.cell? ⟨w.heap.size + 1, 7, none⟩ = some (D[7]'(by omega)) := (blk_cell HD.out.2.2.1 7).trans (Array.getElem?_eq_getElem (by omega))
  go_wp2_with (first | ((with_reducible refine gate_dst (N := 29) rfl ?_); refine wpList_load_row rfl 27 (.tmp 5) rfl (w.heap.size + 1 + 1) rfl 27 O (0, 0) _ HD.out.2.2.2 hu2 rfl i3.out ?_))
  refine (htk.out _).mono ?_
  clear cS3 cD3 cS4 cD4 cS5 cD5 cS6 cD6 cS7 cD7
  rintro e w1 ⟨rfl, hb⟩
  have HB1 := Aside0.mk (B3.step HD.out hb)
  clear HD hb
  have HD := HB1
  clear HB1
  have cD3 : w1.cell? ⟨w.heap.size + 1, 3, none⟩ = some (D[3]'(by omega)) := (blk_cell HD.out.2.2.1 3).trans (Array.getElem?_eq_getElem (by omega))
  have cD4 : w1.cell? ⟨w.heap.size + 1, 4, none⟩ = some (D[4]'(by omega)) := (blk_cell HD.out.2.2.1 4).trans (Array.getElem?_eq_getElem (by omega))
  have cD5 : w1.cell? ⟨w.heap.size + 1, 5, none⟩ = some (D[5]'(by omega)) := (blk_cell HD.out.2.2.1 5).trans (Array.getElem?_eq_getElem (by omega))
  have cD6 : w1.cell? ⟨w.heap.size + 1, 6, none⟩ = some (D[6]'(by omega)) := (blk_cell HD.out.2.2.1 6).trans (Array.getElem?_eq_getElem (by omega))
  have cD7 : w1.cell? ⟨w.heap.size + 1, 7, none⟩ = some (D[7]'(by omega)) := (blk_cell HD.out.2.2.1 7).trans (Array.getElem?_eq_getElem (by omega))
  have fD3 : w1.frozen? ⟨w.heap.size + 1, 3, none⟩ = false := blk_frozen HD.out.2.2.1 3
  have fD4 : w1.frozen? ⟨w.heap.size + 1, 4, none⟩ = false := blk_frozen HD.out.2.2.1 4
  have fD5 : w1.frozen? ⟨w.heap.size + 1, 5, none⟩ = false := blk_frozen HD.out.2.2.1 5
  have fD6 : w1.frozen? ⟨w.heap.size + 1, 6, none⟩ = false := blk_frozen HD.out.2.2.1 6
  have fD7 : w1.frozen? ⟨w.heap.size + 1, 7, none⟩ = false := blk_frozen HD.out.2.2.1 7
  have HD1 := Aside0.mk (B3.putD HD.out 3 (.int .i64 t0))
  have HD2 := Aside0.mk (B3.putD HD1.out 4 (.int .i64 t1))
  have HD3 := Aside0.mk (B3.putD HD2.out 5 (.int .i64 t2))
  have HD4 := Aside0.mk (B3.putD HD3.out 6 (.int .i64 t3))
  have HD5 := Aside0.mk (B3.putD HD4.out 7 (.int .i64 t4))
  clear HD HD1 HD2 HD3 HD4
  have HD := HD5
  clear HD5
  go_wp2_with (first | ((with_reducible refine gate_dst (N := 32) rfl ?_); refine wpList_load_row rfl 25 (.tmp 3) rfl (w.heap.size) rfl 25 S (0, 0) _ HD.out.2.1 hu1 rfl i1.out ?_) | ((with_reducible refine gate_dst (N := 33) rfl ?_); refine wpList_load_row rfl 25 (.tmp 4) rfl (w.heap.size + 1) rfl 25 (((((D.setIfInBounds 3 (.int .i64 t0)).setIfInBounds 4 (.int .i64 t1)).setIfInBounds 5 (.int .i64 t2)).setIfInBounds 6 (.int .i64 t3)).setIfInBounds 7 (.int .i64 t4)) (0, 0) _ HD.out.2.2.1 hu1 rfl i4.out ?_) | ((with_reducible refine gate_dst (N := 34) rfl ?_); refine wpList_load_row rfl 27 (.tmp 5) rfl (w.heap.size + 1 + 1) rfl 27 O (0, 0) _ HD.out.2.2.2 hu2 rfl i3.out ?_))
  refine (hd2.out _).mono ?_
  clear cD3 fD3 cD4 fD4 cD5 fD5 cD6 fD6 cD7 fD7
  rintro e w1 ⟨rfl, hb⟩
  have HB1 := Aside0.mk (B3.step HD.out hb)
  clear HD hb
  have HD := HB1
  clear HB1
  have cO8 : w1.cell? ⟨w.heap.size + 1 + 1, 8, none⟩ = some (.bool tm) := (blk_cell HD.out.2.2.2 8).trans ((Array.getElem?_eq_getElem (by omega)).trans (congrArg some hO8))
  cases tm with
  | false =>
    go_wp2_with fail
    refine (ha.out _).mono ?_
    rintro e w1 ⟨rfl, hb⟩
    have HB1 := Aside0.mk (B3.step HD.out hb)
    clear HD hb
    have HD := HB1
    clear HB1
    go_wp2
    go_ret
    exact ⟨rfl, HD.out.1⟩
  | true =>
    have h8b := h8 rfl
    go_wp2_with fail
    refine (ha.out _).mono ?_
    rintro e w1 ⟨rfl, hb⟩
    have HB1 := Aside0.mk (B3.step HD.out hb)
    clear HD hb
    have HD := HB1
    clear HB1
    go_wp2
    go_ret
    exact ⟨rfl, HD.out.1⟩
end Go.Proofs.Ytniedfbchcgaoaa.PA
