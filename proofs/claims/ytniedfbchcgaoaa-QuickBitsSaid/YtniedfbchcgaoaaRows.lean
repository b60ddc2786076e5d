/-
  No cell of these rows narrows 'for every input' (looked for: loops, veiled, ifaces, maps, wideKeys, modest, calm, conditions, laid).
  DERIVED. THE GIVEN ROWS OF THIS SEAT. 7 by the template 'for every input the law returns true; each argument reads behind the call as it read before'; 0 by the template 'total and deterministic' (their statements: YtniedfbchcgaoaaTotals.lean).
  GIVEN WITH THE SEED: the statements are not yours to turn. If you find one false, say at which input.
  Laid BY PROGRAM, IN A SANDBOX (cutbox-rows.mjs): the forced cells as the released guide's own fill.sh prints them over the translation 4f88921f61a7dd55… (all of the seat's roots in one cut). By AI agents, Wed Nov 11 2026. No macro, syntax, notation, axiom, sorry.
-/
import Derived.Test.YtniedfbchcgaoaaChecked
import GoSem.Claim
import GoSem.ClaimJoined
import GoSem.ClaimMapViews
import Derived.JoinedTies
import Derived.KernelRfl
namespace Go.Proofs.Ytniedfbchcgaoaa
/- THE CELL 'sum', in the pinned program and in every row, IS THE sha256 OF THE DUMP (.gsa) THAT YtniedfbchcgaoaaProg.lean LOADS. Nothing in Lean hashes anything: it is a label: what it is worth is what the hold of that sum in a sandbox is worth. -/
noncomputable def Try.pinned : Pinned := { name := "ytniedfbchcgaoaa", sum := "4f88921f61a7dd55e7351c37b9feb4c8181a9370e50d98e03aa8ff58a20d8223", checked := Try.checked }
namespace Rows
def none {H : Type} : Left H := { results := [], args := [] }

/-- 'remoralaw21.QuickDiffs': WHATEVER THE INPUT: true; the input reads as it did. -/
def quickDiffsSpec : ChangeSpec := { name := "quickDiffs", fn := fun _ => fun
  | [d1, d2, d3] => { results := [.lit (.bool true)], args := [d1, d2, d3] }
  | _ => none }
def quickDiffsRow : OpenClaim := { program := "ytniedfbchcgaoaa", sum := "4f88921f61a7dd55e7351c37b9feb4c8181a9370e50d98e03aa8ff58a20d8223", func := "remora/remoralaw21.QuickDiffs", spec := "quickDiffs", unfollowed := true, recurses := true, apart := false }
def QuickDiffsSaid : Prop := quickDiffsRow.holds Try.pinned (OpenSpec.ofChange quickDiffsSpec)

/-- ITS FALSE NEIGHBOUR: 'it returns false'. Refute it at one input. -/
def quickDiffsWrong : ChangeSpec := { name := "quickDiffs", fn := fun _ => fun
  | [d1, d2, d3] => { results := [.lit (.bool false)], args := [d1, d2, d3] }
  | _ => none }
def QuickDiffsWrongFalsely : Prop := quickDiffsRow.holds Try.pinned (OpenSpec.ofChange quickDiffsWrong)

/-- 'remoralaw21.QuickData': WHATEVER THE INPUT: true; the input reads as it did. -/
def quickDataSpec : ChangeSpec := { name := "quickData", fn := fun _ => fun
  | [d1, d2] => { results := [.lit (.bool true)], args := [d1, d2] }
  | _ => none }
def quickDataRow : OpenClaim := { program := "ytniedfbchcgaoaa", sum := "4f88921f61a7dd55e7351c37b9feb4c8181a9370e50d98e03aa8ff58a20d8223", func := "remora/remoralaw21.QuickData", spec := "quickData", unfollowed := true, recurses := true, apart := false }
def QuickDataSaid : Prop := quickDataRow.holds Try.pinned (OpenSpec.ofChange quickDataSpec)

/-- ITS FALSE NEIGHBOUR: 'it returns false'. Refute it at one input. -/
def quickDataWrong : ChangeSpec := { name := "quickData", fn := fun _ => fun
  | [d1, d2] => { results := [.lit (.bool false)], args := [d1, d2] }
  | _ => none }
def QuickDataWrongFalsely : Prop := quickDataRow.holds Try.pinned (OpenSpec.ofChange quickDataWrong)

/-- 'remoralaw21.QuickBits': WHATEVER THE INPUT: true; the input reads as it did. -/
def quickBitsSpec : ChangeSpec := { name := "quickBits", fn := fun _ => fun
  | [d1, d2, d3] => { results := [.lit (.bool true)], args := [d1, d2, d3] }
  | _ => none }
def quickBitsRow : OpenClaim := { program := "ytniedfbchcgaoaa", sum := "4f88921f61a7dd55e7351c37b9feb4c8181a9370e50d98e03aa8ff58a20d8223", func := "remora/remoralaw21.QuickBits", spec := "quickBits", unfollowed := true, recurses := true, apart := false }
def QuickBitsSaid : Prop := quickBitsRow.holds Try.pinned (OpenSpec.ofChange quickBitsSpec)

/-- ITS FALSE NEIGHBOUR: 'it returns false'. Refute it at one input. -/
def quickBitsWrong : ChangeSpec := { name := "quickBits", fn := fun _ => fun
  | [d1, d2, d3] => { results := [.lit (.bool false)], args := [d1, d2, d3] }
  | _ => none }
def QuickBitsWrongFalsely : Prop := quickBitsRow.holds Try.pinned (OpenSpec.ofChange quickBitsWrong)

/-- 'remoralaw21.QuickSkips': WHATEVER THE INPUT: true; the input reads as it did. -/
def quickSkipsSpec : ChangeSpec := { name := "quickSkips", fn := fun _ => fun
  | [d1, d2, d3, d4] => { results := [.lit (.bool true)], args := [d1, d2, d3, d4] }
  | _ => none }
def quickSkipsRow : OpenClaim := { program := "ytniedfbchcgaoaa", sum := "4f88921f61a7dd55e7351c37b9feb4c8181a9370e50d98e03aa8ff58a20d8223", func := "remora/remoralaw21.QuickSkips", spec := "quickSkips", unfollowed := true, recurses := true, apart := false }
def QuickSkipsSaid : Prop := quickSkipsRow.holds Try.pinned (OpenSpec.ofChange quickSkipsSpec)

/-- ITS FALSE NEIGHBOUR: 'it returns false'. Refute it at one input. -/
def quickSkipsWrong : ChangeSpec := { name := "quickSkips", fn := fun _ => fun
  | [d1, d2, d3, d4] => { results := [.lit (.bool false)], args := [d1, d2, d3, d4] }
  | _ => none }
def QuickSkipsWrongFalsely : Prop := quickSkipsRow.holds Try.pinned (OpenSpec.ofChange quickSkipsWrong)

/-- 'remoralaw21.QuickTurned': WHATEVER THE INPUT: true; the input reads as it did. -/
def quickTurnedSpec : ChangeSpec := { name := "quickTurned", fn := fun _ => fun
  | [d1, d2, d3, d4, d5] => { results := [.lit (.bool true)], args := [d1, d2, d3, d4, d5] }
  | _ => none }
def quickTurnedRow : OpenClaim := { program := "ytniedfbchcgaoaa", sum := "4f88921f61a7dd55e7351c37b9feb4c8181a9370e50d98e03aa8ff58a20d8223", func := "remora/remoralaw21.QuickTurned", spec := "quickTurned", unfollowed := true, recurses := true, apart := false }
def QuickTurnedSaid : Prop := quickTurnedRow.holds Try.pinned (OpenSpec.ofChange quickTurnedSpec)

/-- ITS FALSE NEIGHBOUR: 'it returns false'. Refute it at one input. -/
def quickTurnedWrong : ChangeSpec := { name := "quickTurned", fn := fun _ => fun
  | [d1, d2, d3, d4, d5] => { results := [.lit (.bool false)], args := [d1, d2, d3, d4, d5] }
  | _ => none }
def QuickTurnedWrongFalsely : Prop := quickTurnedRow.holds Try.pinned (OpenSpec.ofChange quickTurnedWrong)

/-- 'remoralaw21.QuickTaken': WHATEVER THE INPUT: true; the input reads as it did. -/
def quickTakenSpec : ChangeSpec := { name := "quickTaken", fn := fun _ => fun
  | [d1, d2, d3] => { results := [.lit (.bool true)], args := [d1, d2, d3] }
  | _ => none }
def quickTakenRow : OpenClaim := { program := "ytniedfbchcgaoaa", sum := "4f88921f61a7dd55e7351c37b9feb4c8181a9370e50d98e03aa8ff58a20d8223", func := "remora/remoralaw21.QuickTaken", spec := "quickTaken", unfollowed := true, recurses := true, apart := false }
def QuickTakenSaid : Prop := quickTakenRow.holds Try.pinned (OpenSpec.ofChange quickTakenSpec)

/-- ITS FALSE NEIGHBOUR: 'it returns false'. Refute it at one input. -/
def quickTakenWrong : ChangeSpec := { name := "quickTaken", fn := fun _ => fun
  | [d1, d2, d3] => { results := [.lit (.bool false)], args := [d1, d2, d3] }
  | _ => none }
def QuickTakenWrongFalsely : Prop := quickTakenRow.holds Try.pinned (OpenSpec.ofChange quickTakenWrong)

/-- 'remoralaw21.QuickSelf': WHATEVER THE INPUT: true; the input reads as it did. -/
def quickSelfSpec : ChangeSpec := { name := "quickSelf", fn := fun _ => fun
  | [d1, d2] => { results := [.lit (.bool true)], args := [d1, d2] }
  | _ => none }
def quickSelfRow : OpenClaim := { program := "ytniedfbchcgaoaa", sum := "4f88921f61a7dd55e7351c37b9feb4c8181a9370e50d98e03aa8ff58a20d8223", func := "remora/remoralaw21.QuickSelf", spec := "quickSelf", unfollowed := true, recurses := true, apart := false }
def QuickSelfSaid : Prop := quickSelfRow.holds Try.pinned (OpenSpec.ofChange quickSelfSpec)

/-- ITS FALSE NEIGHBOUR: 'it returns false'. Refute it at one input. -/
def quickSelfWrong : ChangeSpec := { name := "quickSelf", fn := fun _ => fun
  | [d1, d2] => { results := [.lit (.bool false)], args := [d1, d2] }
  | _ => none }
def QuickSelfWrongFalsely : Prop := quickSelfRow.holds Try.pinned (OpenSpec.ofChange quickSelfWrong)

/- THE SECOND FORM. 'bulk': how many values and letters a reading holds, each counted each time it is reached (what is shared counts as often as it is met; a slice's spare places count too). A statement '..UptoSaid' is the law's where the arguments, and the package variables that the reading takes, are together of bulk at most 1048576: NARROWER than '..Said'. Prove '..Said' where nothing that the law and all that it calls make is longer than what came in: it says more and counts as full. Else prove '..UptoSaid'. A law counts once. -/
mutual
def uptoBulk {H : Type} : DataW H → Nat
  | .lit (.string bytes) => bytes.length + 1
  | .lit _ => 1
  | .nil => 1
  | .ptr d => uptoBulk d + 1
  | .slice elems spare => uptoBulkAll elems + uptoBulkAll spare + 1
  | .agg parts => uptoBulkAll parts + 1
  | .iface _ d => uptoBulk d + 1
  | .map entries => uptoBulkEntries entries + 1
  | .held _ => 1
def uptoBulkAll {H : Type} : List (DataW H) → Nat
  | [] => 0
  | d :: r => uptoBulk d + uptoBulkAll r
def uptoBulkEntries {H : Type} : List (Lit × DataW H) → Nat
  | [] => 0
  | x :: r => uptoBulkEntry x + uptoBulkEntries r
def uptoBulkEntry {H : Type} : Lit × DataW H → Nat
  | (.string bytes, d) => bytes.length + uptoBulk d + 1
  | (_, d) => uptoBulk d + 1
 end
def uptoSmall : (H : Type) → List (DataW H) → Bool := fun _ ds => decide (uptoBulkAll ds ≤ 1048576)
def OpenSpec.upto (s : _root_.Go.ChangeSpec) : _root_.Go.OpenSpec := { _root_.Go.OpenSpec.ofChange s with cond := some uptoSmall }

/-- 'remoralaw21.QuickDiffs', WHERE WHAT IT READS IS OF BULK AT MOST 1048576: true; the input reads as it did. -/
def quickDiffsUptoRow : OpenClaim := { program := "ytniedfbchcgaoaa", sum := "4f88921f61a7dd55e7351c37b9feb4c8181a9370e50d98e03aa8ff58a20d8223", func := "remora/remoralaw21.QuickDiffs", spec := "quickDiffs", unfollowed := true, recurses := true, apart := false, narrowed := true }
def QuickDiffsUptoSaid : Prop := quickDiffsUptoRow.holds Try.pinned (OpenSpec.upto quickDiffsSpec)

/-- 'remoralaw21.QuickData', WHERE WHAT IT READS IS OF BULK AT MOST 1048576: true; the input reads as it did. -/
def quickDataUptoRow : OpenClaim := { program := "ytniedfbchcgaoaa", sum := "4f88921f61a7dd55e7351c37b9feb4c8181a9370e50d98e03aa8ff58a20d8223", func := "remora/remoralaw21.QuickData", spec := "quickData", unfollowed := true, recurses := true, apart := false, narrowed := true }
def QuickDataUptoSaid : Prop := quickDataUptoRow.holds Try.pinned (OpenSpec.upto quickDataSpec)

/-- 'remoralaw21.QuickBits', WHERE WHAT IT READS IS OF BULK AT MOST 1048576: true; the input reads as it did. -/
def quickBitsUptoRow : OpenClaim := { program := "ytniedfbchcgaoaa", sum := "4f88921f61a7dd55e7351c37b9feb4c8181a9370e50d98e03aa8ff58a20d8223", func := "remora/remoralaw21.QuickBits", spec := "quickBits", unfollowed := true, recurses := true, apart := false, narrowed := true }
def QuickBitsUptoSaid : Prop := quickBitsUptoRow.holds Try.pinned (OpenSpec.upto quickBitsSpec)

/-- 'remoralaw21.QuickSkips', WHERE WHAT IT READS IS OF BULK AT MOST 1048576: true; the input reads as it did. -/
def quickSkipsUptoRow : OpenClaim := { program := "ytniedfbchcgaoaa", sum := "4f88921f61a7dd55e7351c37b9feb4c8181a9370e50d98e03aa8ff58a20d8223", func := "remora/remoralaw21.QuickSkips", spec := "quickSkips", unfollowed := true, recurses := true, apart := false, narrowed := true }
def QuickSkipsUptoSaid : Prop := quickSkipsUptoRow.holds Try.pinned (OpenSpec.upto quickSkipsSpec)

/-- 'remoralaw21.QuickTurned', WHERE WHAT IT READS IS OF BULK AT MOST 1048576: true; the input reads as it did. -/
def quickTurnedUptoRow : OpenClaim := { program := "ytniedfbchcgaoaa", sum := "4f88921f61a7dd55e7351c37b9feb4c8181a9370e50d98e03aa8ff58a20d8223", func := "remora/remoralaw21.QuickTurned", spec := "quickTurned", unfollowed := true, recurses := true, apart := false, narrowed := true }
def QuickTurnedUptoSaid : Prop := quickTurnedUptoRow.holds Try.pinned (OpenSpec.upto quickTurnedSpec)

/-- 'remoralaw21.QuickTaken', WHERE WHAT IT READS IS OF BULK AT MOST 1048576: true; the input reads as it did. -/
def quickTakenUptoRow : OpenClaim := { program := "ytniedfbchcgaoaa", sum := "4f88921f61a7dd55e7351c37b9feb4c8181a9370e50d98e03aa8ff58a20d8223", func := "remora/remoralaw21.QuickTaken", spec := "quickTaken", unfollowed := true, recurses := true, apart := false, narrowed := true }
def QuickTakenUptoSaid : Prop := quickTakenUptoRow.holds Try.pinned (OpenSpec.upto quickTakenSpec)

/-- 'remoralaw21.QuickSelf', WHERE WHAT IT READS IS OF BULK AT MOST 1048576: true; the input reads as it did. -/
def quickSelfUptoRow : OpenClaim := { program := "ytniedfbchcgaoaa", sum := "4f88921f61a7dd55e7351c37b9feb4c8181a9370e50d98e03aa8ff58a20d8223", func := "remora/remoralaw21.QuickSelf", spec := "quickSelf", unfollowed := true, recurses := true, apart := false, narrowed := true }
def QuickSelfUptoSaid : Prop := quickSelfUptoRow.holds Try.pinned (OpenSpec.upto quickSelfSpec)

end Rows
end Go.Proofs.Ytniedfbchcgaoaa
