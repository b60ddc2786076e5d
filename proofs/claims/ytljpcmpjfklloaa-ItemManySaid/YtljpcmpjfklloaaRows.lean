/-
  No cell of these rows narrows 'for every input' (looked for: loops, veiled, ifaces, maps, wideKeys, modest, calm, conditions, laid).
  DERIVED. THE GIVEN ROWS OF THIS SEAT. 4 by the template 'for every input the law returns true; each argument reads behind the call as it read before'; 0 by the template 'total and deterministic' (their statements: YtljpcmpjfklloaaTotals.lean).
  GIVEN WITH THE SEED: the statements are not yours to turn. If you find one false, say at which input.
  Laid BY PROGRAM, IN A SANDBOX (cutbox-rows.mjs): the forced cells as the released guide's own fill.sh prints them over the translation 3d89e1d63e899f84… (all of the seat's roots in one cut). By AI agents, Wed Nov 11 2026. No macro, syntax, notation, axiom, sorry.
-/
import Derived.Test.YtljpcmpjfklloaaChecked
import GoSem.Claim
import GoSem.ClaimJoined
import GoSem.ClaimMapViews
import Derived.JoinedTies
import Derived.KernelRfl
namespace Go.Proofs.Ytljpcmpjfklloaa
/- THE CELL 'sum', in the pinned program and in every row, IS THE sha256 OF THE DUMP (.gsa) THAT YtljpcmpjfklloaaProg.lean LOADS. Nothing in Lean hashes anything: it is a label: what it is worth is what the hold of that sum in a sandbox is worth. -/
noncomputable def Try.pinned : Pinned := { name := "ytljpcmpjfklloaa", sum := "3d89e1d63e899f8449a4551d0600f7365a0875e1261f8911613a9b16b6ea26e2", checked := Try.checked }
namespace Rows
def none {H : Type} : Left H := { results := [], args := [] }

/-- 'remoralaw28.ItemLines': WHATEVER THE INPUT: true; the input reads as it did. -/
def itemLinesSpec : ChangeSpec := { name := "itemLines", fn := fun _ => fun
  | [d] => { results := [.lit (.bool true)], args := [d] }
  | _ => none }
def itemLinesRow : OpenClaim := { program := "ytljpcmpjfklloaa", sum := "3d89e1d63e899f8449a4551d0600f7365a0875e1261f8911613a9b16b6ea26e2", func := "remora/remoralaw28.ItemLines", spec := "itemLines", inPlace := ["internal/bytealg.IndexByteString"], apart := false }
def ItemLinesSaid : Prop := itemLinesRow.holds Try.pinned (OpenSpec.ofChange itemLinesSpec)

/-- ITS FALSE NEIGHBOUR: 'it returns false'. Refute it at one input. -/
def itemLinesWrong : ChangeSpec := { name := "itemLines", fn := fun _ => fun
  | [d] => { results := [.lit (.bool false)], args := [d] }
  | _ => none }
def ItemLinesWrongFalsely : Prop := itemLinesRow.holds Try.pinned (OpenSpec.ofChange itemLinesWrong)

/-- 'remoralaw28.ItemSigns': WHATEVER THE INPUT: true; the input reads as it did. -/
def itemSignsSpec : ChangeSpec := { name := "itemSigns", fn := fun _ => fun
  | [d] => { results := [.lit (.bool true)], args := [d] }
  | _ => none }
def itemSignsRow : OpenClaim := { program := "ytljpcmpjfklloaa", sum := "3d89e1d63e899f8449a4551d0600f7365a0875e1261f8911613a9b16b6ea26e2", func := "remora/remoralaw28.ItemSigns", spec := "itemSigns", inPlace := ["internal/bytealg.IndexByteString"], apart := false }
def ItemSignsSaid : Prop := itemSignsRow.holds Try.pinned (OpenSpec.ofChange itemSignsSpec)

/-- ITS FALSE NEIGHBOUR: 'it returns false'. Refute it at one input. -/
def itemSignsWrong : ChangeSpec := { name := "itemSigns", fn := fun _ => fun
  | [d] => { results := [.lit (.bool false)], args := [d] }
  | _ => none }
def ItemSignsWrongFalsely : Prop := itemSignsRow.holds Try.pinned (OpenSpec.ofChange itemSignsWrong)

/-- 'remoralaw28.ItemMany': WHATEVER THE INPUT: true; the input reads as it did. -/
def itemManySpec : ChangeSpec := { name := "itemMany", fn := fun _ => fun
  | [d] => { results := [.lit (.bool true)], args := [d] }
  | _ => none }
def itemManyRow : OpenClaim := { program := "ytljpcmpjfklloaa", sum := "3d89e1d63e899f8449a4551d0600f7365a0875e1261f8911613a9b16b6ea26e2", func := "remora/remoralaw28.ItemMany", spec := "itemMany", inPlace := ["internal/bytealg.IndexByteString"], apart := false }
def ItemManySaid : Prop := itemManyRow.holds Try.pinned (OpenSpec.ofChange itemManySpec)

/-- ITS FALSE NEIGHBOUR: 'it returns false'. Refute it at one input. -/
def itemManyWrong : ChangeSpec := { name := "itemMany", fn := fun _ => fun
  | [d] => { results := [.lit (.bool false)], args := [d] }
  | _ => none }
def ItemManyWrongFalsely : Prop := itemManyRow.holds Try.pinned (OpenSpec.ofChange itemManyWrong)

/-- 'remoralaw28.ItemPlain': WHATEVER THE INPUT: true; the input reads as it did. -/
def itemPlainSpec : ChangeSpec := { name := "itemPlain", fn := fun _ => fun
  | [d] => { results := [.lit (.bool true)], args := [d] }
  | _ => none }
def itemPlainRow : OpenClaim := { program := "ytljpcmpjfklloaa", sum := "3d89e1d63e899f8449a4551d0600f7365a0875e1261f8911613a9b16b6ea26e2", func := "remora/remoralaw28.ItemPlain", spec := "itemPlain", inPlace := ["internal/bytealg.IndexByteString"], apart := false }
def ItemPlainSaid : Prop := itemPlainRow.holds Try.pinned (OpenSpec.ofChange itemPlainSpec)

/-- ITS FALSE NEIGHBOUR: 'it returns false'. Refute it at one input. -/
def itemPlainWrong : ChangeSpec := { name := "itemPlain", fn := fun _ => fun
  | [d] => { results := [.lit (.bool false)], args := [d] }
  | _ => none }
def ItemPlainWrongFalsely : Prop := itemPlainRow.holds Try.pinned (OpenSpec.ofChange itemPlainWrong)

/- THE SECOND FORM. 'bulk': how many values and letters a reading holds, each counted each time it is reached (what is shared counts as often as it is met; a slice's spare places count too). A statement '..UptoSaid' is the law's where the arguments, and the package variables that the reading takes, are together of bulk at most 1048576: NARROWER than '..Said'. Prove '..Said' where nothing that the law and all that it calls make is longer than what came in: it says more and counts as full. Else prove '..UptoSaid'. A law counts once. -/
mutual
def uptoBulk {H : Type} : DataW H → Nat
  | .lit (.string bytes) => bytes.length + 1
  | .lit _ => 1
  | .nil => 1
  | .ptr d => uptoBulk d + 1
  | .slice elems spare => uptoBulkAll elems + uptoBulkAll spare + 1
  | .agg parts => uptoBulkAll parts + 1
  | .iface _ d => uptoBulk d + 1
  | .map entries => uptoBulkEntries entries + 1
  | .held _ => 1
def uptoBulkAll {H : Type} : List (DataW H) → Nat
  | [] => 0
  | d :: r => uptoBulk d + uptoBulkAll r
def uptoBulkEntries {H : Type} : List (Lit × DataW H) → Nat
  | [] => 0
  | x :: r => uptoBulkEntry x + uptoBulkEntries r
def uptoBulkEntry {H : Type} : Lit × DataW H → Nat
  | (.string bytes, d) => bytes.length + uptoBulk d + 1
  | (_, d) => uptoBulk d + 1
 end
def uptoSmall : (H : Type) → List (DataW H) → Bool := fun _ ds => decide (uptoBulkAll ds ≤ 1048576)
def OpenSpec.upto (s : _root_.Go.ChangeSpec) : _root_.Go.OpenSpec := { _root_.Go.OpenSpec.ofChange s with cond := some uptoSmall }

/-- 'remoralaw28.ItemLines', WHERE WHAT IT READS IS OF BULK AT MOST 1048576: true; the input reads as it did. -/
def itemLinesUptoRow : OpenClaim := { program := "ytljpcmpjfklloaa", sum := "3d89e1d63e899f8449a4551d0600f7365a0875e1261f8911613a9b16b6ea26e2", func := "remora/remoralaw28.ItemLines", spec := "itemLines", inPlace := ["internal/bytealg.IndexByteString"], apart := false, narrowed := true }
def ItemLinesUptoSaid : Prop := itemLinesUptoRow.holds Try.pinned (OpenSpec.upto itemLinesSpec)

/-- 'remoralaw28.ItemSigns', WHERE WHAT IT READS IS OF BULK AT MOST 1048576: true; the input reads as it did. -/
def itemSignsUptoRow : OpenClaim := { program := "ytljpcmpjfklloaa", sum := "3d89e1d63e899f8449a4551d0600f7365a0875e1261f8911613a9b16b6ea26e2", func := "remora/remoralaw28.ItemSigns", spec := "itemSigns", inPlace := ["internal/bytealg.IndexByteString"], apart := false, narrowed := true }
def ItemSignsUptoSaid : Prop := itemSignsUptoRow.holds Try.pinned (OpenSpec.upto itemSignsSpec)

/-- 'remoralaw28.ItemMany', WHERE WHAT IT READS IS OF BULK AT MOST 1048576: true; the input reads as it did. -/
def itemManyUptoRow : OpenClaim := { program := "ytljpcmpjfklloaa", sum := "3d89e1d63e899f8449a4551d0600f7365a0875e1261f8911613a9b16b6ea26e2", func := "remora/remoralaw28.ItemMany", spec := "itemMany", inPlace := ["internal/bytealg.IndexByteString"], apart := false, narrowed := true }
def ItemManyUptoSaid : Prop := itemManyUptoRow.holds Try.pinned (OpenSpec.upto itemManySpec)

/-- 'remoralaw28.ItemPlain', WHERE WHAT IT READS IS OF BULK AT MOST 1048576: true; the input reads as it did. -/
def itemPlainUptoRow : OpenClaim := { program := "ytljpcmpjfklloaa", sum := "3d89e1d63e899f8449a4551d0600f7365a0875e1261f8911613a9b16b6ea26e2", func := "remora/remoralaw28.ItemPlain", spec := "itemPlain", inPlace := ["internal/bytealg.IndexByteString"], apart := false, narrowed := true }
def ItemPlainUptoSaid : Prop := itemPlainUptoRow.holds Try.pinned (OpenSpec.upto itemPlainSpec)

end Rows
end Go.Proofs.Ytljpcmpjfklloaa
