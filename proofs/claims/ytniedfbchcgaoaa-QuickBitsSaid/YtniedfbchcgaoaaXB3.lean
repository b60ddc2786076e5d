/- Three variables of the call's own, in the first three new blocks: how they stay. -/
import Derived.Test.YtniedfbchcgaoaaPAx0
namespace Go.Proofs.Ytniedfbchcgaoaa.PA
open Go.RowKit Go.Proofs.YtniedfbchcgaoaaW.PrintWords Go.Proofs.YtniedfbchcgaoaaW.PrintLast Go.Proofs.YtniedfbchcgaoaaW.PrintMore
attribute [local go_sem] max2_int min2_int max_two min_two max_three min_three max_four min_four
set_option linter.unusedVariables false
set_option linter.unusedSimpArgs false
def B3 (s d o : Nat) (w0 wr : World) (S D O : Array Value) : Prop := Below w0.heap.size w0 wr ∧ wr.heap[w0.heap.size]? = some (.cells S s (0, 0)) ∧ wr.heap[w0.heap.size + 1]? = some (.cells D d (0, 0)) ∧ wr.heap[w0.heap.size + 1 + 1]? = some (.cells O o (0, 0))
theorem B3.start (s d o : Nat) (w : World) (S D O : Array Value) : B3 s d o w (((w.alloc (.cells S s)).alloc (.cells D d)).alloc (.cells O o)) S D O := by
  refine ⟨below_alloc (below_alloc (below_alloc (Below.refl _ _) _) _) _, blk_alloc (blk_alloc (blk_new _ _) _) _, blk_alloc ?_ _, ?_⟩
  · have := blk_new (w.alloc (.cells S s)) (.cells D d)
    simpa using this
  · have := blk_new ((w.alloc (.cells S s)).alloc (.cells D d)) (.cells O o)
    simpa using this
theorem B3.step {s d o : Nat} {w0 wr w2 : World} {S D O : Array Value} (h : B3 s d o w0 wr S D O) (hb : Below wr.heap.size wr w2) : B3 s d o w0 w2 S D O :=
  ⟨below_step h.1 hb, blk_below h.2.1 hb, blk_below h.2.2.1 hb, blk_below h.2.2.2 hb⟩
end Go.Proofs.Ytniedfbchcgaoaa.PA
