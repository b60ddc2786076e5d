/- One variable of the call's own, in the first new block: how it stays. -/
import Derived.Test.YtiigjnccoeadlaaPAx0
namespace Go.Proofs.Ytiigjnccoeadlaa.PA
open Go.RowKit Go.Proofs.YtiigjnccoeadlaaW.PrintWords Go.Proofs.YtiigjnccoeadlaaW.PrintLast Go.Proofs.YtiigjnccoeadlaaW.PrintMore
attribute [local go_sem] max2_int min2_int max_two min_two max_three min_three max_four min_four
set_option linter.unusedVariables false
set_option linter.unusedSimpArgs false
abbrev Y_ : Bool := true
abbrev Z_ : Bool := false
theorem nS {α : Type} : (∀ (l : List α) (i : Nat) (a : α), l.toArray.setIfInBounds i a = (l.set i a).toArray) ∧ (∀ (x : α) (xs : List α) (a : α), (x :: xs).set 0 a = a :: xs) ∧ (∀ (x : α) (xs : List α) (i : Nat) (a : α), (x :: xs).set (i + 1) a = x :: xs.set i a) := ⟨fun l i a => List.setIfInBounds_toArray l i a, fun x xs a => List.set_cons_zero, fun x xs i a => List.set_cons_succ⟩
def B1 (o : Nat) (w0 wr : World) (O : Array Value) : Prop := Below w0.heap.size w0 wr ∧ wr.heap[w0.heap.size]? = some (.cells O o (0, 0))
theorem B1.start (o : Nat) (w : World) (O : Array Value) : B1 o w (w.alloc (.cells O o)) O := ⟨below_alloc (Below.refl _ _) _, blk_new _ _⟩
theorem B1.step {o : Nat} {w0 wr w2 : World} {O : Array Value} (h : B1 o w0 wr O) (hb : Below wr.heap.size wr w2) : B1 o w0 w2 O := ⟨below_step h.1 hb, blk_below h.2 hb⟩
def B2 (s o : Nat) (w0 wr : World) (S O : Array Value) : Prop := Below w0.heap.size w0 wr ∧ wr.heap[w0.heap.size]? = some (.cells S s (0, 0)) ∧ wr.heap[w0.heap.size + 1]? = some (.cells O o (0, 0))
theorem B2.start (s o : Nat) (w : World) (S O : Array Value) : B2 s o w ((w.alloc (.cells S s)).alloc (.cells O o)) S O := by
  refine ⟨below_alloc (below_alloc (Below.refl _ _) _) _, blk_alloc (blk_new _ _) _, ?_⟩
  have := blk_new (w.alloc (.cells S s)) (.cells O o)
  simpa using this
theorem B2.step {s o : Nat} {w0 wr w2 : World} {S O : Array Value} (h : B2 s o w0 wr S O) (hb : Below wr.heap.size wr w2) : B2 s o w0 w2 S O := ⟨below_step h.1 hb, blk_below h.2.1 hb, blk_below h.2.2 hb⟩
theorem B2.put {s o : Nat} {w0 wr : World} {S O : Array Value} (h : B2 s o w0 wr S O) (i : Nat) (v : Value) : B2 s o w0 (wr.setCell ⟨w0.heap.size + 1, i, none⟩ v) S (O.setIfInBounds i v) :=
  ⟨below_set h.1 (Nat.le_succ _), blk_far h.2.1 (Nat.ne_of_lt (Nat.lt_succ_self _)) v, blk_set h.2.2 i v⟩
end Go.Proofs.Ytiigjnccoeadlaa.PA
