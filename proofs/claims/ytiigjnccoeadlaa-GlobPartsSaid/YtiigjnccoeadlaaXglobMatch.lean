/- glob.Match by its contract. -/
import Derived.Test.YtiigjnccoeadlaaPAx0
import Derived.Test.YtiigjnccoeadlaaXGlobSpec
import Derived.Test.YtiigjnccoeadlaaXHeadBase
import Derived.Test.YtiigjnccoeadlaaXMatchPure
import Derived.Test.YtiigjnccoeadlaaXMatchW
namespace Go.Proofs.Ytiigjnccoeadlaa.PA
open Go.RowKit Go.Proofs.YtiigjnccoeadlaaW.PrintWords Go.Proofs.YtiigjnccoeadlaaW.PrintLast Go.Proofs.YtiigjnccoeadlaaW.PrintMore
attribute [local go_sem] max2_int min2_int max_two min_two max_three min_three max_four min_four
set_option linter.unusedVariables false
set_option linter.unusedSimpArgs false
def glob_Match.f (a0 a1 : ByteArray) : Option Bool := if a0.size < 1000000 ∧ a1.size < 1000000 then some (mO (patO a0) a1) else none
theorem glob_Match.calls (a0 a1 : ByteArray) (r : Bool) (w : World) (h : glob_Match.f a0 a1 = some r) : Calls Try.prog 13 #[.string a0, .string a1] w fun e w' => e = .returned (.bool r) ∧ Below w.heap.size w w' := by
  unfold glob_Match.f at h
  split at h
  · rename_i hs
    obtain rfl := Option.some.inj h
    refine (match_call a0 a1 hs.1 hs.2 w).mono ?_
    rintro e w' ⟨rfl, hb⟩
    refine ⟨?_, hb⟩
    unfold mO patO
    cases (if a0.size ≤ 100 then parse (a0.size + 1) (gL a0) else none) with
    | none => rfl
    | some l =>
      dsimp only
      rw [stS_mL]
  · cases h
end Go.Proofs.Ytiigjnccoeadlaa.PA
