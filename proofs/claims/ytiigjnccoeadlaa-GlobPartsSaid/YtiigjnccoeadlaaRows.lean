/-
  No cell of these rows narrows 'for every input' (looked for: loops, veiled, ifaces, maps, wideKeys, modest, calm, conditions, laid).
  DERIVED. THE GIVEN ROWS OF THIS SEAT. 7 by the template 'for every input the law returns true; each argument reads behind the call as it read before'; 0 by the template 'total and deterministic' (their statements: YtiigjnccoeadlaaTotals.lean).
  GIVEN WITH THE SEED: the statements are not yours to turn. If you find one false, say at which input.
  Laid BY PROGRAM, IN A SANDBOX (cutbox-rows.mjs): the forced cells as the released guide's own fill.sh prints them over the translation 9ade5277d87648b7… (all of the seat's roots in one cut). By AI agents, Wed Nov 11 2026. No macro, syntax, notation, axiom, sorry.
-/
import Derived.Test.YtiigjnccoeadlaaChecked
import GoSem.Claim
import GoSem.ClaimJoined
import GoSem.ClaimMapViews
import Derived.JoinedTies
import Derived.KernelRfl
namespace Go.Proofs.Ytiigjnccoeadlaa
/- THE CELL 'sum', in the pinned program and in every row, IS THE sha256 OF THE DUMP (.gsa) THAT YtiigjnccoeadlaaProg.lean LOADS. Nothing in Lean hashes anything: it is a label: what it is worth is what the hold of that sum in a sandbox is worth. -/
noncomputable def Try.pinned : Pinned := { name := "ytiigjnccoeadlaa", sum := "9ade5277d87648b7799f2d9daa1107c6cb968f7edcfe4c3da89227e78e1d5c88", checked := Try.checked }
namespace Rows
def none {H : Type} : Left H := { results := [], args := [] }

/-- 'remoralaw14.GlobChecks': WHATEVER THE INPUT: true; the input reads as it did. -/
def globChecksSpec : ChangeSpec := { name := "globChecks", fn := fun _ => fun
  | [d] => { results := [.lit (.bool true)], args := [d] }
  | _ => none }
def globChecksRow : OpenClaim := { program := "ytiigjnccoeadlaa", sum := "9ade5277d87648b7799f2d9daa1107c6cb968f7edcfe4c3da89227e78e1d5c88", func := "remora/remoralaw14.GlobChecks", spec := "globChecks", inPlace := ["internal/abi.NoEscape"], apart := false }
def GlobChecksSaid : Prop := globChecksRow.holds Try.pinned (OpenSpec.ofChange globChecksSpec)

/-- ITS FALSE NEIGHBOUR: 'it returns false'. Refute it at one input. -/
def globChecksWrong : ChangeSpec := { name := "globChecks", fn := fun _ => fun
  | [d] => { results := [.lit (.bool false)], args := [d] }
  | _ => none }
def GlobChecksWrongFalsely : Prop := globChecksRow.holds Try.pinned (OpenSpec.ofChange globChecksWrong)

/-- 'remoralaw14.GlobMatches': WHATEVER THE INPUT: true; the input reads as it did. -/
def globMatchesSpec : ChangeSpec := { name := "globMatches", fn := fun _ => fun
  | [d1, d2] => { results := [.lit (.bool true)], args := [d1, d2] }
  | _ => none }
def globMatchesRow : OpenClaim := { program := "ytiigjnccoeadlaa", sum := "9ade5277d87648b7799f2d9daa1107c6cb968f7edcfe4c3da89227e78e1d5c88", func := "remora/remoralaw14.GlobMatches", spec := "globMatches", inPlace := ["internal/abi.NoEscape"], apart := false }
def GlobMatchesSaid : Prop := globMatchesRow.holds Try.pinned (OpenSpec.ofChange globMatchesSpec)

/-- ITS FALSE NEIGHBOUR: 'it returns false'. Refute it at one input. -/
def globMatchesWrong : ChangeSpec := { name := "globMatches", fn := fun _ => fun
  | [d1, d2] => { results := [.lit (.bool false)], args := [d1, d2] }
  | _ => none }
def GlobMatchesWrongFalsely : Prop := globMatchesRow.holds Try.pinned (OpenSpec.ofChange globMatchesWrong)

/-- 'remoralaw14.GlobJoins': WHATEVER THE INPUT: true; the input reads as it did. -/
def globJoinsSpec : ChangeSpec := { name := "globJoins", fn := fun _ => fun
  | [d1, d2] => { results := [.lit (.bool true)], args := [d1, d2] }
  | _ => none }
def globJoinsRow : OpenClaim := { program := "ytiigjnccoeadlaa", sum := "9ade5277d87648b7799f2d9daa1107c6cb968f7edcfe4c3da89227e78e1d5c88", func := "remora/remoralaw14.GlobJoins", spec := "globJoins", inPlace := ["internal/abi.NoEscape"], apart := false }
def GlobJoinsSaid : Prop := globJoinsRow.holds Try.pinned (OpenSpec.ofChange globJoinsSpec)

/-- ITS FALSE NEIGHBOUR: 'it returns false'. Refute it at one input. -/
def globJoinsWrong : ChangeSpec := { name := "globJoins", fn := fun _ => fun
  | [d1, d2] => { results := [.lit (.bool false)], args := [d1, d2] }
  | _ => none }
def GlobJoinsWrongFalsely : Prop := globJoinsRow.holds Try.pinned (OpenSpec.ofChange globJoinsWrong)

/-- 'remoralaw14.GlobParts': WHATEVER THE INPUT: true; the input reads as it did. -/
def globPartsSpec : ChangeSpec := { name := "globParts", fn := fun _ => fun
  | [d1, d2] => { results := [.lit (.bool true)], args := [d1, d2] }
  | _ => none }
def globPartsRow : OpenClaim := { program := "ytiigjnccoeadlaa", sum := "9ade5277d87648b7799f2d9daa1107c6cb968f7edcfe4c3da89227e78e1d5c88", func := "remora/remoralaw14.GlobParts", spec := "globParts", inPlace := ["internal/abi.NoEscape"], apart := false }
def GlobPartsSaid : Prop := globPartsRow.holds Try.pinned (OpenSpec.ofChange globPartsSpec)

/-- ITS FALSE NEIGHBOUR: 'it returns false'. Refute it at one input. -/
def globPartsWrong : ChangeSpec := { name := "globParts", fn := fun _ => fun
  | [d1, d2] => { results := [.lit (.bool false)], args := [d1, d2] }
  | _ => none }
def GlobPartsWrongFalsely : Prop := globPartsRow.holds Try.pinned (OpenSpec.ofChange globPartsWrong)

/-- 'remoralaw14.GlobEscapes': WHATEVER THE INPUT: true; the input reads as it did. -/
def globEscapesSpec : ChangeSpec := { name := "globEscapes", fn := fun _ => fun
  | [d1, d2] => { results := [.lit (.bool true)], args := [d1, d2] }
  | _ => none }
def globEscapesRow : OpenClaim := { program := "ytiigjnccoeadlaa", sum := "9ade5277d87648b7799f2d9daa1107c6cb968f7edcfe4c3da89227e78e1d5c88", func := "remora/remoralaw14.GlobEscapes", spec := "globEscapes", inPlace := ["internal/abi.NoEscape"], apart := false }
def GlobEscapesSaid : Prop := globEscapesRow.holds Try.pinned (OpenSpec.ofChange globEscapesSpec)

/-- ITS FALSE NEIGHBOUR: 'it returns false'. Refute it at one input. -/
def globEscapesWrong : ChangeSpec := { name := "globEscapes", fn := fun _ => fun
  | [d1, d2] => { results := [.lit (.bool false)], args := [d1, d2] }
  | _ => none }
def GlobEscapesWrongFalsely : Prop := globEscapesRow.holds Try.pinned (OpenSpec.ofChange globEscapesWrong)

/-- 'remoralaw14.GlobHeads': WHATEVER THE INPUT: true; the input reads as it did. -/
def globHeadsSpec : ChangeSpec := { name := "globHeads", fn := fun _ => fun
  | [d] => { results := [.lit (.bool true)], args := [d] }
  | _ => none }
def globHeadsRow : OpenClaim := { program := "ytiigjnccoeadlaa", sum := "9ade5277d87648b7799f2d9daa1107c6cb968f7edcfe4c3da89227e78e1d5c88", func := "remora/remoralaw14.GlobHeads", spec := "globHeads", inPlace := ["internal/abi.NoEscape"], apart := false }
def GlobHeadsSaid : Prop := globHeadsRow.holds Try.pinned (OpenSpec.ofChange globHeadsSpec)

/-- ITS FALSE NEIGHBOUR: 'it returns false'. Refute it at one input. -/
def globHeadsWrong : ChangeSpec := { name := "globHeads", fn := fun _ => fun
  | [d] => { results := [.lit (.bool false)], args := [d] }
  | _ => none }
def GlobHeadsWrongFalsely : Prop := globHeadsRow.holds Try.pinned (OpenSpec.ofChange globHeadsWrong)

/-- 'remoralaw14.GlobBegins': WHATEVER THE INPUT: true; the input reads as it did. -/
def globBeginsSpec : ChangeSpec := { name := "globBegins", fn := fun _ => fun
  | [d1, d2] => { results := [.lit (.bool true)], args := [d1, d2] }
  | _ => none }
def globBeginsRow : OpenClaim := { program := "ytiigjnccoeadlaa", sum := "9ade5277d87648b7799f2d9daa1107c6cb968f7edcfe4c3da89227e78e1d5c88", func := "remora/remoralaw14.GlobBegins", spec := "globBegins", inPlace := ["internal/abi.NoEscape"], apart := false }
def GlobBeginsSaid : Prop := globBeginsRow.holds Try.pinned (OpenSpec.ofChange globBeginsSpec)

/-- ITS FALSE NEIGHBOUR: 'it returns false'. Refute it at one input. -/
def globBeginsWrong : ChangeSpec := { name := "globBegins", fn := fun _ => fun
  | [d1, d2] => { results := [.lit (.bool false)], args := [d1, d2] }
  | _ => none }
def GlobBeginsWrongFalsely : Prop := globBeginsRow.holds Try.pinned (OpenSpec.ofChange globBeginsWrong)

/- THE SECOND FORM. 'bulk': how many values and letters a reading holds, each counted each time it is reached (what is shared counts as often as it is met; a slice's spare places count too). A statement '..UptoSaid' is the law's where the arguments, and the package variables that the reading takes, are together of bulk at most 1048576: NARROWER than '..Said'. Prove '..Said' where nothing that the law and all that it calls make is longer than what came in: it says more and counts as full. Else prove '..UptoSaid'. A law counts once. -/
mutual
def uptoBulk {H : Type} : DataW H → Nat
  | .lit (.string bytes) => bytes.length + 1
  | .lit _ => 1
  | .nil => 1
  | .ptr d => uptoBulk d + 1
  | .slice elems spare => uptoBulkAll elems + uptoBulkAll spare + 1
  | .agg parts => uptoBulkAll parts + 1
  | .iface _ d => uptoBulk d + 1
  | .map entries => uptoBulkEntries entries + 1
  | .held _ => 1
def uptoBulkAll {H : Type} : List (DataW H) → Nat
  | [] => 0
  | d :: r => uptoBulk d + uptoBulkAll r
def uptoBulkEntries {H : Type} : List (Lit × DataW H) → Nat
  | [] => 0
  | x :: r => uptoBulkEntry x + uptoBulkEntries r
def uptoBulkEntry {H : Type} : Lit × DataW H → Nat
  | (.string bytes, d) => bytes.length + uptoBulk d + 1
  | (_, d) => uptoBulk d + 1
 end
def uptoSmall : (H : Type) → List (DataW H) → Bool := fun _ ds => decide (uptoBulkAll ds ≤ 1048576)
def OpenSpec.upto (s : _root_.Go.ChangeSpec) : _root_.Go.OpenSpec := { _root_.Go.OpenSpec.ofChange s with cond := some uptoSmall }

/-- 'remoralaw14.GlobChecks', WHERE WHAT IT READS IS OF BULK AT MOST 1048576: true; the input reads as it did. -/
def globChecksUptoRow : OpenClaim := { program := "ytiigjnccoeadlaa", sum := "9ade5277d87648b7799f2d9daa1107c6cb968f7edcfe4c3da89227e78e1d5c88", func := "remora/remoralaw14.GlobChecks", spec := "globChecks", inPlace := ["internal/abi.NoEscape"], apart := false, narrowed := true }
def GlobChecksUptoSaid : Prop := globChecksUptoRow.holds Try.pinned (OpenSpec.upto globChecksSpec)

/-- 'remoralaw14.GlobMatches', WHERE WHAT IT READS IS OF BULK AT MOST 1048576: true; the input reads as it did. -/
def globMatchesUptoRow : OpenClaim := { program := "ytiigjnccoeadlaa", sum := "9ade5277d87648b7799f2d9daa1107c6cb968f7edcfe4c3da89227e78e1d5c88", func := "remora/remoralaw14.GlobMatches", spec := "globMatches", inPlace := ["internal/abi.NoEscape"], apart := false, narrowed := true }
def GlobMatchesUptoSaid : Prop := globMatchesUptoRow.holds Try.pinned (OpenSpec.upto globMatchesSpec)

/-- 'remoralaw14.GlobJoins', WHERE WHAT IT READS IS OF BULK AT MOST 1048576: true; the input reads as it did. -/
def globJoinsUptoRow : OpenClaim := { program := "ytiigjnccoeadlaa", sum := "9ade5277d87648b7799f2d9daa1107c6cb968f7edcfe4c3da89227e78e1d5c88", func := "remora/remoralaw14.GlobJoins", spec := "globJoins", inPlace := ["internal/abi.NoEscape"], apart := false, narrowed := true }
def GlobJoinsUptoSaid : Prop := globJoinsUptoRow.holds Try.pinned (OpenSpec.upto globJoinsSpec)

/-- 'remoralaw14.GlobParts', WHERE WHAT IT READS IS OF BULK AT MOST 1048576: true; the input reads as it did. -/
def globPartsUptoRow : OpenClaim := { program := "ytiigjnccoeadlaa", sum := "9ade5277d87648b7799f2d9daa1107c6cb968f7edcfe4c3da89227e78e1d5c88", func := "remora/remoralaw14.GlobParts", spec := "globParts", inPlace := ["internal/abi.NoEscape"], apart := false, narrowed := true }
def GlobPartsUptoSaid : Prop := globPartsUptoRow.holds Try.pinned (OpenSpec.upto globPartsSpec)

/-- 'remoralaw14.GlobEscapes', WHERE WHAT IT READS IS OF BULK AT MOST 1048576: true; the input reads as it did. -/
def globEscapesUptoRow : OpenClaim := { program := "ytiigjnccoeadlaa", sum := "9ade5277d87648b7799f2d9daa1107c6cb968f7edcfe4c3da89227e78e1d5c88", func := "remora/remoralaw14.GlobEscapes", spec := "globEscapes", inPlace := ["internal/abi.NoEscape"], apart := false, narrowed := true }
def GlobEscapesUptoSaid : Prop := globEscapesUptoRow.holds Try.pinned (OpenSpec.upto globEscapesSpec)

/-- 'remoralaw14.GlobHeads', WHERE WHAT IT READS IS OF BULK AT MOST 1048576: true; the input reads as it did. -/
def globHeadsUptoRow : OpenClaim := { program := "ytiigjnccoeadlaa", sum := "9ade5277d87648b7799f2d9daa1107c6cb968f7edcfe4c3da89227e78e1d5c88", func := "remora/remoralaw14.GlobHeads", spec := "globHeads", inPlace := ["internal/abi.NoEscape"], apart := false, narrowed := true }
def GlobHeadsUptoSaid : Prop := globHeadsUptoRow.holds Try.pinned (OpenSpec.upto globHeadsSpec)

/-- 'remoralaw14.GlobBegins', WHERE WHAT IT READS IS OF BULK AT MOST 1048576: true; the input reads as it did. -/
def globBeginsUptoRow : OpenClaim := { program := "ytiigjnccoeadlaa", sum := "9ade5277d87648b7799f2d9daa1107c6cb968f7edcfe4c3da89227e78e1d5c88", func := "remora/remoralaw14.GlobBegins", spec := "globBegins", inPlace := ["internal/abi.NoEscape"], apart := false, narrowed := true }
def GlobBeginsUptoSaid : Prop := globBeginsUptoRow.holds Try.pinned (OpenSpec.upto globBeginsSpec)

end Rows
end Go.Proofs.Ytiigjnccoeadlaa
