/- remoralaw21.awake by its contract: true. -/
import Derived.Test.YtniedfbchcgaoaaPAx0
import Derived.Test.YtniedfbchcgaoaaXB3
import Derived.Test.YtniedfbchcgaoaaXquickDiff
import Derived.Test.YtniedfbchcgaoaaXquickText
namespace Go.Proofs.Ytniedfbchcgaoaa.PA
open Go.RowKit Go.Proofs.YtniedfbchcgaoaaW.PrintWords Go.Proofs.YtniedfbchcgaoaaW.PrintLast Go.Proofs.YtniedfbchcgaoaaW.PrintMore
attribute [local go_sem] max2_int min2_int max_two min_two max_three min_three max_four min_four
set_option linter.unusedVariables false
set_option linter.unusedSimpArgs false
theorem awake_d1 : quick_Diff.f (⟨#[]⟩ : ByteArray) 1 1 0 5 0 0 0 (⟨#[]⟩ : ByteArray) (⟨#[]⟩ : ByteArray) 0 (⟨#[]⟩ : ByteArray) 1 2 0 5 0 0 0 (⟨#[]⟩ : ByteArray) (⟨#[]⟩ : ByteArray) 0 0 0 false false false false false false false false false false false false false false false false 0 0 0 = some 4 := by kernel_rfl
theorem awake_d2 : quick_Diff.f (⟨#[]⟩ : ByteArray) 1 1 0 5 0 0 0 (⟨#[]⟩ : ByteArray) (⟨#[]⟩ : ByteArray) 0 (⟨#[]⟩ : ByteArray) 1 1 0 6 0 0 0 (⟨#[]⟩ : ByteArray) (⟨#[]⟩ : ByteArray) 0 0 0 false false false false false false false false false false false false false false false false 1 0 0 = some 0 := by kernel_rfl
theorem awake_t : textSpec 4 = ⟨#[46, 46, 115, 46, 46, 46, 46, 46, 46]⟩ := by kernel_rfl
set_option maxHeartbeats 2000000 in
set_option maxRecDepth 100000 in
theorem awake_call (w : World) : Calls Try.prog 12 #[] w fun e w' => e = .returned (.bool true) ∧ Below w.heap.size w w' := by
  have hu1 := Try.underlying25
  have hu2 := Try.underlying27
  have hu3 := Try.underlying23
  have c1 := Aside0.mk (fun w => quick_Diff.calls _ _ _ _ _ _ _ _ _ _ _ _ _ _ _ _ _ _ _ _ _ _ _ _ _ _ _ _ _ _ _ _ _ _ _ _ _ _ _ _ _ _ _ 4 w awake_d1)
  have c2 := Aside0.mk (fun w => quick_Diff.calls _ _ _ _ _ _ _ _ _ _ _ _ _ _ _ _ _ _ _ _ _ _ _ _ _ _ _ _ _ _ _ _ _ _ _ _ _ _ _ _ _ _ _ 0 w awake_d2)
  have c3 := Aside0.mk (fun w => quick_Text.calls 4 _ w (congrArg some awake_t))
  have i1 := Aside0.mk (show (Try.prog.info? 25).map (·.size) = some 11 by kernel_rfl)
  have HD := Aside0.mk (B3.start 25 25 25 w #[.string ⟨#[]⟩, .int .i64 1, .int .i64 1, .int .i64 0, .int .i64 5, .int .i64 0, .int .i64 0, .int .i64 0, .string ⟨#[]⟩, .string ⟨#[]⟩, .int .i64 0] #[.string ⟨#[]⟩, .int .i64 1, .int .i64 2, .int .i64 0, .int .i64 5, .int .i64 0, .int .i64 0, .int .i64 0, .string ⟨#[]⟩, .string ⟨#[]⟩, .int .i64 0] #[.string ⟨#[]⟩, .int .i64 1, .int .i64 1, .int .i64 0, .int .i64 6, .int .i64 0, .int .i64 0, .int .i64 0, .string ⟨#[]⟩, .string ⟨#[]⟩, .int .i64 0])
  go_enter Try.func12, Try.ntmps12
  go_wp2_with fail
  refine (c1.out _).mono ?_
  rintro e w1 ⟨rfl, h1⟩
  have H2 := Aside0.mk (B3.step HD.out h1)
  clear HD h1
  have HD := H2
  clear H2
  go_wp2_with fail
  refine (c3.out _).mono ?_
  rintro e w1 ⟨rfl, h1⟩
  have H2 := Aside0.mk (B3.step HD.out h1)
  clear HD h1
  have HD := H2
  clear H2
  go_wp2_with (first | ((with_reducible refine gate_dst (N := 17) rfl ?_); refine gate_guard (by rfl) ?_; dsimp only; refine wpList_load_row rfl 25 (.tmp 1) rfl (w.heap.size) rfl 25 #[.string ⟨#[]⟩, .int .i64 1, .int .i64 1, .int .i64 0, .int .i64 5, .int .i64 0, .int .i64 0, .int .i64 0, .string ⟨#[]⟩, .string ⟨#[]⟩, .int .i64 0] (0, 0) _ HD.out.2.1 hu1 rfl i1.out ?_) | ((with_reducible refine gate_dst (N := 18) rfl ?_); refine gate_guard (by rfl) ?_; dsimp only; refine wpList_load_row rfl 25 (.tmp 2) rfl (w.heap.size + 1) rfl 25 #[.string ⟨#[]⟩, .int .i64 1, .int .i64 2, .int .i64 0, .int .i64 5, .int .i64 0, .int .i64 0, .int .i64 0, .string ⟨#[]⟩, .string ⟨#[]⟩, .int .i64 0] (0, 0) _ HD.out.2.2.1 hu1 rfl i1.out ?_) | ((with_reducible refine gate_dst (N := 24) rfl ?_); refine gate_guard (by rfl) ?_; dsimp only; refine wpList_load_row rfl 25 (.tmp 1) rfl (w.heap.size) rfl 25 #[.string ⟨#[]⟩, .int .i64 1, .int .i64 1, .int .i64 0, .int .i64 5, .int .i64 0, .int .i64 0, .int .i64 0, .string ⟨#[]⟩, .string ⟨#[]⟩, .int .i64 0] (0, 0) _ HD.out.2.1 hu1 rfl i1.out ?_) | ((with_reducible refine gate_dst (N := 25) rfl ?_); refine gate_guard (by rfl) ?_; dsimp only; refine wpList_load_row rfl 25 (.tmp 3) rfl (w.heap.size + 1 + 1) rfl 25 #[.string ⟨#[]⟩, .int .i64 1, .int .i64 1, .int .i64 0, .int .i64 6, .int .i64 0, .int .i64 0, .int .i64 0, .string ⟨#[]⟩, .string ⟨#[]⟩, .int .i64 0] (0, 0) _ HD.out.2.2.2 hu1 rfl i1.out ?_))
  refine (c1.out _).mono ?_
  rintro e w1 ⟨rfl, h1⟩
  have H2 := Aside0.mk (B3.step HD.out h1)
  clear HD h1
  have HD := H2
  clear H2
  go_wp2_with (first | ((with_reducible refine gate_dst (N := 17) rfl ?_); refine gate_guard (by rfl) ?_; dsimp only; refine wpList_load_row rfl 25 (.tmp 1) rfl (w.heap.size) rfl 25 #[.string ⟨#[]⟩, .int .i64 1, .int .i64 1, .int .i64 0, .int .i64 5, .int .i64 0, .int .i64 0, .int .i64 0, .string ⟨#[]⟩, .string ⟨#[]⟩, .int .i64 0] (0, 0) _ HD.out.2.1 hu1 rfl i1.out ?_) | ((with_reducible refine gate_dst (N := 18) rfl ?_); refine gate_guard (by rfl) ?_; dsimp only; refine wpList_load_row rfl 25 (.tmp 2) rfl (w.heap.size + 1) rfl 25 #[.string ⟨#[]⟩, .int .i64 1, .int .i64 2, .int .i64 0, .int .i64 5, .int .i64 0, .int .i64 0, .int .i64 0, .string ⟨#[]⟩, .string ⟨#[]⟩, .int .i64 0] (0, 0) _ HD.out.2.2.1 hu1 rfl i1.out ?_) | ((with_reducible refine gate_dst (N := 24) rfl ?_); refine gate_guard (by rfl) ?_; dsimp only; refine wpList_load_row rfl 25 (.tmp 1) rfl (w.heap.size) rfl 25 #[.string ⟨#[]⟩, .int .i64 1, .int .i64 1, .int .i64 0, .int .i64 5, .int .i64 0, .int .i64 0, .int .i64 0, .string ⟨#[]⟩, .string ⟨#[]⟩, .int .i64 0] (0, 0) _ HD.out.2.1 hu1 rfl i1.out ?_) | ((with_reducible refine gate_dst (N := 25) rfl ?_); refine gate_guard (by rfl) ?_; dsimp only; refine wpList_load_row rfl 25 (.tmp 3) rfl (w.heap.size + 1 + 1) rfl 25 #[.string ⟨#[]⟩, .int .i64 1, .int .i64 1, .int .i64 0, .int .i64 6, .int .i64 0, .int .i64 0, .int .i64 0, .string ⟨#[]⟩, .string ⟨#[]⟩, .int .i64 0] (0, 0) _ HD.out.2.2.2 hu1 rfl i1.out ?_))
  refine (c2.out _).mono ?_
  rintro e w1 ⟨rfl, h1⟩
  have H2 := Aside0.mk (B3.step HD.out h1)
  clear HD h1
  have HD := H2
  clear H2
  go_wp2_with fail
  go_ret
  exact ⟨rfl, HD.out.1⟩
def remoralaw21_awake.f : Option Bool := some true
theorem remoralaw21_awake.calls (r : Bool) (w : World) (h : remoralaw21_awake.f = some r) : Calls Try.prog 12 #[] w fun e w' => e = .returned (.bool r) ∧ Below w.heap.size w w' := by
  obtain rfl := Option.some.inj h
  exact awake_call w
end Go.Proofs.Ytniedfbchcgaoaa.PA
