/- item.kinds and item.things by their contracts, item.two in plain. -/
import Derived.Test.YtljpcmpjfklloaaDoorPAfitemtwo
import Derived.Test.YtljpcmpjfklloaaDoorPAx0
namespace Go.Proofs.YtljpcmpjfklloaaDoor.PA
open Go.RowKit Go.Proofs.YtljpcmpjfklloaaDoorW.PrintWords Go.Proofs.YtljpcmpjfklloaaDoorW.PrintLast Go.Proofs.YtljpcmpjfklloaaDoorW.PrintMore
attribute [local go_sem] max2_int min2_int max_two min_two max_three min_three max_four min_four
set_option linter.unusedVariables false
set_option linter.unusedSimpArgs false
def kindsA : Array Value := #[.int .u8 0, .int .u8 100, .int .u8 102, .int .u8 108, .int .u8 104, .int .u8 115, .int .u8 120, .int .u8 109]
def thingsA : Array Value := #[.int .u8 45, .int .u8 102, .int .u8 100, .int .u8 108]
theorem kinds_call (w : World) : Calls Tryd.prog 12 #[] w fun e w' => e = .returned (.agg kindsA) ∧ Below w.heap.size w w' := by
  go_enter Tryd.func12, Tryd.ntmps12
  go_wp2
  refine bodyPost_ret (results_cell_row rfl _ _ w.heap.size 40 kindsA (0, 0) _ rfl ?_ Tryd.underlying40 rfl (by kernel_rfl)) rfl ?_
  · exact heap_alloc_new w _
  · exact ⟨rfl, below_alloc (Below.refl _ _) _⟩
theorem things_call (w : World) : Calls Tryd.prog 13 #[] w fun e w' => e = .returned (.agg thingsA) ∧ Below w.heap.size w w' := by
  go_enter Tryd.func13, Tryd.ntmps13
  go_wp2
  refine bodyPost_ret (results_cell_row rfl _ _ w.heap.size 42 thingsA (0, 0) _ rfl ?_ Tryd.underlying42 rfl (by kernel_rfl)) rfl ?_
  · exact heap_alloc_new w _
  · exact ⟨rfl, below_alloc (Below.refl _ _) _⟩
def twoB (k : Int) : Bool := (k == 4) || (k == 7)
theorem two_f (k : Int) : item_two.f k = some (twoB k) := by
  unfold item_two.f twoB
  by_cases h : k = 4
  · rw [if_pos h, beq_iff_eq.mpr h]
    rfl
  · rw [if_neg h, beq_eq_false_iff_ne.mpr h]
    rfl
end Go.Proofs.YtljpcmpjfklloaaDoor.PA
