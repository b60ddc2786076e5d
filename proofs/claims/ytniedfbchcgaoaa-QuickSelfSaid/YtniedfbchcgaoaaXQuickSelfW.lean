/- The walk of the law QuickSelf, out of the contracts of what it calls. -/
import Derived.Test.YtniedfbchcgaoaaPAx0
import Derived.Test.YtniedfbchcgaoaaXB1
namespace Go.Proofs.Ytniedfbchcgaoaa.PA
open Go.RowKit Go.Proofs.YtniedfbchcgaoaaW.PrintWords Go.Proofs.YtniedfbchcgaoaaW.PrintLast Go.Proofs.YtniedfbchcgaoaaW.PrintMore
attribute [local go_sem] max2_int min2_int max_two min_two max_three min_three max_four min_four
set_option linter.unusedVariables false
set_option linter.unusedSimpArgs false
set_option maxHeartbeats 2000000 in
set_option maxRecDepth 100000 in
theorem quickSelf_no (S O : Array Value) (hS : S.size = 11) (hO : O.size = 21) (m0 m1 m2 m3 m4 : Int) (hS3 : S[3]'(by omega) = .int .i64 m0) (hS4 : S[4]'(by omega) = .int .i64 m1) (hS5 : S[5]'(by omega) = .int .i64 m2) (hS6 : S[6]'(by omega) = .int .i64 m3) (hS7 : S[7]'(by omega) = .int .i64 m4)
    (hc : Aside0 (∀ w, Calls Try.prog 19 #[.agg #[.int .i64 m0, .int .i64 m1, .int .i64 m2, .int .i64 m3, .int .i64 m4]] w fun e w' => e = .returned (.int .i64 2) ∧ Below w.heap.size w w'))
    (ha : Aside0 (∀ w, Calls Try.prog 12 #[] w fun e w' => e = .returned (.bool true) ∧ Below w.heap.size w w')) (w : World) : Calls Try.prog 9 #[.agg S, .agg O] w fun e w' => e = .returned (.bool true) ∧ Below w.heap.size w w' := by
  have hu1 := Try.underlying25
  have hu2 := Try.underlying27
  have hu3 := Try.underlying23
  have i1 := Aside0.mk (show (Try.prog.info? 25).map (·.size) = some S.size by rw [hS]; kernel_rfl)
  have i2 := Aside0.mk (show (Try.prog.info? 27).map (·.size) = some O.size by rw [hO]; kernel_rfl)
  have i3 := Aside0.mk (show (Try.prog.info? 27).map (·.size) = some (O.setIfInBounds 6 (.bool false)).size by rw [Array.size_setIfInBounds, hO]; kernel_rfl)
  have HD := Aside0.mk (B2.start 25 27 w S O)
  go_enter Try.func9, Try.ntmps9
  go_wp2_with fail
  refine (hc.out _).mono ?_
  rintro e w1 ⟨rfl, hb⟩
  have HB1 := Aside0.mk (B2.step HD.out hb)
  clear HD hb
  have HD := HB1
  clear HB1
  go_wp2_with fail
  refine (ha.out _).mono ?_
  rintro e w1 ⟨rfl, hb⟩
  have HB1 := Aside0.mk (B2.step HD.out hb)
  clear HD hb
  have HD := HB1
  clear HB1
  go_wp2
  go_ret
  exact ⟨rfl, HD.out.1⟩
set_option maxHeartbeats 2000000 in
set_option maxRecDepth 100000 in
theorem quickSelf_yes (S O : Array Value) (hS : S.size = 11) (hO : O.size = 21) (m0 m1 m2 m3 m4 : Int) (hS3 : S[3]'(by omega) = .int .i64 m0) (hS4 : S[4]'(by omega) = .int .i64 m1) (hS5 : S[5]'(by omega) = .int .i64 m2) (hS6 : S[6]'(by omega) = .int .i64 m3) (hS7 : S[7]'(by omega) = .int .i64 m4) (s0 : ByteArray) (hs0 : (s0.toList == [46, 46, 46, 46, 46, 46, 46, 46, 46]) = true)
    (hc : Aside0 (∀ w, Calls Try.prog 19 #[.agg #[.int .i64 m0, .int .i64 m1, .int .i64 m2, .int .i64 m3, .int .i64 m4]] w fun e w' => e = .returned (.int .i64 0) ∧ Below w.heap.size w w'))
    (hd : Aside0 (∀ w, Calls Try.prog 10 #[.agg S, .agg S, .agg O] w fun e w' => e = .returned (.int .i64 0) ∧ Below w.heap.size w w'))
    (hda : Aside0 (∀ w, Calls Try.prog 13 #[.int .i64 0, .agg (O.setIfInBounds 6 (.bool false))] w fun e w' => e = .returned (.bool false) ∧ Below w.heap.size w w'))
    (ht : Aside0 (∀ w, Calls Try.prog 15 #[.int .i64 0] w fun e w' => e = .returned (.string s0) ∧ Below w.heap.size w w'))
    (hsk : Aside0 (∀ w, Calls Try.prog 17 #[.agg S, .agg S, .bool true, .agg (O.setIfInBounds 6 (.bool false))] w fun e w' => e = .returned (.bool false) ∧ Below w.heap.size w w'))
    (ha : Aside0 (∀ w, Calls Try.prog 12 #[] w fun e w' => e = .returned (.bool true) ∧ Below w.heap.size w w')) (w : World) : Calls Try.prog 9 #[.agg S, .agg O] w fun e w' => e = .returned (.bool true) ∧ Below w.heap.size w w' := by
  have hu1 := Try.underlying25
  have hu2 := Try.underlying27
  have hu3 := Try.underlying23
  have i1 := Aside0.mk (show (Try.prog.info? 25).map (·.size) = some S.size by rw [hS]; kernel_rfl)
  have i2 := Aside0.mk (show (Try.prog.info? 27).map (·.size) = some O.size by rw [hO]; kernel_rfl)
  have i3 := Aside0.mk (show (Try.prog.info? 27).map (·.size) = some (O.setIfInBounds 6 (.bool false)).size by rw [Array.size_setIfInBounds, hO]; kernel_rfl)
  have HD := Aside0.mk (B2.start 25 27 w S O)
  go_enter Try.func9, Try.ntmps9
  go_wp2_with fail
  refine (hc.out _).mono ?_
  rintro e w1 ⟨rfl, hb⟩
  have HB1 := Aside0.mk (B2.step HD.out hb)
  clear HD hb
  have HD := HB1
  clear HB1
  go_wp2_with (first | ((with_reducible refine gate_dst (N := 11) rfl ?_); refine wpList_load_row rfl 25 (.tmp 2) rfl (w.heap.size) rfl 25 S (0, 0) _ HD.out.2.1 hu1 rfl i1.out ?_) | ((with_reducible refine gate_dst (N := 12) rfl ?_); refine wpList_load_row rfl 25 (.tmp 2) rfl (w.heap.size) rfl 25 S (0, 0) _ HD.out.2.1 hu1 rfl i1.out ?_) | ((with_reducible refine gate_dst (N := 13) rfl ?_); refine wpList_load_row rfl 27 (.tmp 3) rfl (w.heap.size + 1) rfl 27 O (0, 0) _ HD.out.2.2 hu2 rfl i2.out ?_))
  refine (hd.out _).mono ?_
  rintro e w1 ⟨rfl, hb⟩
  have HB1 := Aside0.mk (B2.step HD.out hb)
  clear HD hb
  have HD := HB1
  clear HB1
  have hfz : w1.frozen? ⟨w.heap.size + 1, 6, none⟩ = false := blk_frozen HD.out.2.2 6
  have hcz : w1.cell? ⟨w.heap.size + 1, 6, none⟩ = some (O[6]'(by omega)) := (blk_cell HD.out.2.2 6).trans (Array.getElem?_eq_getElem (by omega))
  have HD2 := Aside0.mk (B2.put HD.out 6 (.bool false))
  clear HD
  have HD := HD2
  clear HD2
  go_wp2_with (first | ((with_reducible refine gate_dst (N := 20) rfl ?_); refine gate_guard (by rfl) ?_; dsimp only; refine wpList_load_row rfl 27 (.tmp 3) rfl (w.heap.size + 1) rfl 27 (O.setIfInBounds 6 (.bool false)) (0, 0) _ HD.out.2.2 hu2 rfl i3.out ?_) | ((with_reducible refine gate_dst (N := 30) rfl ?_); refine gate_guard (by rfl) ?_; dsimp only; refine wpList_load_row rfl 25 (.tmp 2) rfl (w.heap.size) rfl 25 S (0, 0) _ HD.out.2.1 hu1 rfl i1.out ?_) | ((with_reducible refine gate_dst (N := 31) rfl ?_); refine gate_guard (by rfl) ?_; dsimp only; refine wpList_load_row rfl 25 (.tmp 2) rfl (w.heap.size) rfl 25 S (0, 0) _ HD.out.2.1 hu1 rfl i1.out ?_) | ((with_reducible refine gate_dst (N := 32) rfl ?_); refine gate_guard (by rfl) ?_; dsimp only; refine wpList_load_row rfl 27 (.tmp 3) rfl (w.heap.size + 1) rfl 27 (O.setIfInBounds 6 (.bool false)) (0, 0) _ HD.out.2.2 hu2 rfl i3.out ?_))
  refine (hda.out _).mono ?_
  rintro e w1 ⟨rfl, hb⟩
  have HB1 := Aside0.mk (B2.step HD.out hb)
  clear HD hb
  have HD := HB1
  clear HB1
  go_wp2_with fail
  refine (ht.out _).mono ?_
  rintro e w1 ⟨rfl, hb⟩
  have HB1 := Aside0.mk (B2.step HD.out hb)
  clear HD hb
  have HD := HB1
  clear HB1
  go_wp2_with (first | ((with_reducible refine gate_dst (N := 20) rfl ?_); refine gate_guard (by rfl) ?_; dsimp only; refine wpList_load_row rfl 27 (.tmp 3) rfl (w.heap.size + 1) rfl 27 (O.setIfInBounds 6 (.bool false)) (0, 0) _ HD.out.2.2 hu2 rfl i3.out ?_) | ((with_reducible refine gate_dst (N := 30) rfl ?_); refine gate_guard (by rfl) ?_; dsimp only; refine wpList_load_row rfl 25 (.tmp 2) rfl (w.heap.size) rfl 25 S (0, 0) _ HD.out.2.1 hu1 rfl i1.out ?_) | ((with_reducible refine gate_dst (N := 31) rfl ?_); refine gate_guard (by rfl) ?_; dsimp only; refine wpList_load_row rfl 25 (.tmp 2) rfl (w.heap.size) rfl 25 S (0, 0) _ HD.out.2.1 hu1 rfl i1.out ?_) | ((with_reducible refine gate_dst (N := 32) rfl ?_); refine gate_guard (by rfl) ?_; dsimp only; refine wpList_load_row rfl 27 (.tmp 3) rfl (w.heap.size + 1) rfl 27 (O.setIfInBounds 6 (.bool false)) (0, 0) _ HD.out.2.2 hu2 rfl i3.out ?_))
  refine (hsk.out _).mono ?_
  rintro e w1 ⟨rfl, hb⟩
  have HB1 := Aside0.mk (B2.step HD.out hb)
  clear HD hb
  have HD := HB1
  clear HB1
  go_wp2_with fail
  refine (ha.out _).mono ?_
  rintro e w1 ⟨rfl, hb⟩
  have HB1 := Aside0.mk (B2.step HD.out hb)
  clear HD hb
  have HD := HB1
  clear HB1
  go_wp2
  go_ret
  exact ⟨rfl, HD.out.1⟩
end Go.Proofs.Ytniedfbchcgaoaa.PA
