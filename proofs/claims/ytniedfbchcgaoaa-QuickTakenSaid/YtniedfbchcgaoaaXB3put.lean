/- A store into the second of three variables of the call's own. -/
import Derived.Test.YtniedfbchcgaoaaPAx0
import Derived.Test.YtniedfbchcgaoaaXB3
namespace Go.Proofs.Ytniedfbchcgaoaa.PA
open Go.RowKit Go.Proofs.YtniedfbchcgaoaaW.PrintWords Go.Proofs.YtniedfbchcgaoaaW.PrintLast Go.Proofs.YtniedfbchcgaoaaW.PrintMore
attribute [local go_sem] max2_int min2_int max_two min_two max_three min_three max_four min_four
set_option linter.unusedVariables false
set_option linter.unusedSimpArgs false
theorem B3.putD {s d o : Nat} {w0 wr : World} {S D O : Array Value} (h : B3 s d o w0 wr S D O) (i : Nat) (v : Value) : B3 s d o w0 (wr.setCell ⟨w0.heap.size + 1, i, none⟩ v) S (D.setIfInBounds i v) O :=
  ⟨below_set h.1 (Nat.le_succ _), blk_far h.2.1 (Nat.ne_of_lt (Nat.lt_succ_self _)) v, blk_set h.2.2.1 i v, blk_far h.2.2.2 (Nat.ne_of_gt (Nat.lt_succ_self _)) v⟩
end Go.Proofs.Ytniedfbchcgaoaa.PA
