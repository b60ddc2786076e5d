/-
  No cell of these rows narrows 'for every input' (looked for: loops, veiled, ifaces, maps, wideKeys, modest, calm, conditions, laid).
  DERIVED. THE GIVEN ROWS OF THIS SEAT. 6 by the template 'for every input the law returns true; each argument reads behind the call as it read before'; 0 by the template 'total and deterministic' (their statements: YtodbmagneaiocaaTotals.lean).
  GIVEN WITH THE SEED: the statements are not yours to turn. If you find one false, say at which input.
  Laid BY PROGRAM, IN A SANDBOX (cutbox-rows.mjs): the forced cells as the released guide's own fill.sh prints them over the translation 4af28b74cd3494d7… (all of the seat's roots in one cut). By AI agents, Wed Nov 11 2026. No macro, syntax, notation, axiom, sorry.
-/
import Derived.Test.YtodbmagneaiocaaChecked
import GoSem.Claim
import GoSem.ClaimJoined
import GoSem.ClaimMapViews
import Derived.JoinedTies
import Derived.KernelRfl
namespace Go.Proofs.Ytodbmagneaiocaa
/- THE CELL 'sum', in the pinned program and in every row, IS THE sha256 OF THE DUMP (.gsa) THAT YtodbmagneaiocaaProg.lean LOADS. Nothing in Lean hashes anything: it is a label: what it is worth is what the hold of that sum in a sandbox is worth. -/
noncomputable def Try.pinned : Pinned := { name := "ytodbmagneaiocaa", sum := "4af28b74cd3494d7af16258967a775366d2f862c79e06d978dfdd30e1f5cdfc0", checked := Try.checked }
namespace Rows
def none {H : Type} : Left H := { results := [], args := [] }

/-- 'remoralaw43.ArchTurns': WHATEVER THE INPUT: true; the input reads as it did. -/
def archTurnsSpec : ChangeSpec := { name := "archTurns", fn := fun _ => fun
  | [d1, d2] => { results := [.lit (.bool true)], args := [d1, d2] }
  | _ => none }
def archTurnsRow : OpenClaim := { program := "ytodbmagneaiocaa", sum := "4af28b74cd3494d7af16258967a775366d2f862c79e06d978dfdd30e1f5cdfc0", func := "remora/remoralaw43.ArchTurns", spec := "archTurns", unfollowed := true, recurses := true, apart := false }
def ArchTurnsSaid : Prop := archTurnsRow.holds Try.pinned (OpenSpec.ofChange archTurnsSpec)

/-- ITS FALSE NEIGHBOUR: 'it returns false'. Refute it at one input. -/
def archTurnsWrong : ChangeSpec := { name := "archTurns", fn := fun _ => fun
  | [d1, d2] => { results := [.lit (.bool false)], args := [d1, d2] }
  | _ => none }
def ArchTurnsWrongFalsely : Prop := archTurnsRow.holds Try.pinned (OpenSpec.ofChange archTurnsWrong)

/-- 'remoralaw43.ArchSince': WHATEVER THE INPUT: true; the input reads as it did. -/
def archSinceSpec : ChangeSpec := { name := "archSince", fn := fun _ => fun
  | [d1, d2] => { results := [.lit (.bool true)], args := [d1, d2] }
  | _ => none }
def archSinceRow : OpenClaim := { program := "ytodbmagneaiocaa", sum := "4af28b74cd3494d7af16258967a775366d2f862c79e06d978dfdd30e1f5cdfc0", func := "remora/remoralaw43.ArchSince", spec := "archSince", unfollowed := true, recurses := true, apart := false }
def ArchSinceSaid : Prop := archSinceRow.holds Try.pinned (OpenSpec.ofChange archSinceSpec)

/-- ITS FALSE NEIGHBOUR: 'it returns false'. Refute it at one input. -/
def archSinceWrong : ChangeSpec := { name := "archSince", fn := fun _ => fun
  | [d1, d2] => { results := [.lit (.bool false)], args := [d1, d2] }
  | _ => none }
def ArchSinceWrongFalsely : Prop := archSinceRow.holds Try.pinned (OpenSpec.ofChange archSinceWrong)

/-- 'remoralaw43.ArchApplies': WHATEVER THE INPUT: true; the input reads as it did. -/
def archAppliesSpec : ChangeSpec := { name := "archApplies", fn := fun _ => fun
  | [d1, d2, d3] => { results := [.lit (.bool true)], args := [d1, d2, d3] }
  | _ => none }
def archAppliesRow : OpenClaim := { program := "ytodbmagneaiocaa", sum := "4af28b74cd3494d7af16258967a775366d2f862c79e06d978dfdd30e1f5cdfc0", func := "remora/remoralaw43.ArchApplies", spec := "archApplies", unfollowed := true, recurses := true, apart := false }
def ArchAppliesSaid : Prop := archAppliesRow.holds Try.pinned (OpenSpec.ofChange archAppliesSpec)

/-- ITS FALSE NEIGHBOUR: 'it returns false'. Refute it at one input. -/
def archAppliesWrong : ChangeSpec := { name := "archApplies", fn := fun _ => fun
  | [d1, d2, d3] => { results := [.lit (.bool false)], args := [d1, d2, d3] }
  | _ => none }
def ArchAppliesWrongFalsely : Prop := archAppliesRow.holds Try.pinned (OpenSpec.ofChange archAppliesWrong)

/-- 'remoralaw43.ArchParts': WHATEVER THE INPUT: true; the input reads as it did. -/
def archPartsSpec : ChangeSpec := { name := "archParts", fn := fun _ => fun
  | [d1, d2, d3] => { results := [.lit (.bool true)], args := [d1, d2, d3] }
  | _ => none }
def archPartsRow : OpenClaim := { program := "ytodbmagneaiocaa", sum := "4af28b74cd3494d7af16258967a775366d2f862c79e06d978dfdd30e1f5cdfc0", func := "remora/remoralaw43.ArchParts", spec := "archParts", unfollowed := true, recurses := true, apart := false }
def ArchPartsSaid : Prop := archPartsRow.holds Try.pinned (OpenSpec.ofChange archPartsSpec)

/-- ITS FALSE NEIGHBOUR: 'it returns false'. Refute it at one input. -/
def archPartsWrong : ChangeSpec := { name := "archParts", fn := fun _ => fun
  | [d1, d2, d3] => { results := [.lit (.bool false)], args := [d1, d2, d3] }
  | _ => none }
def ArchPartsWrongFalsely : Prop := archPartsRow.holds Try.pinned (OpenSpec.ofChange archPartsWrong)

/-- 'remoralaw43.ArchAll': WHATEVER THE INPUT: true; the input reads as it did. -/
def archAllSpec : ChangeSpec := { name := "archAll", fn := fun _ => fun
  | [d1, d2] => { results := [.lit (.bool true)], args := [d1, d2] }
  | _ => none }
def archAllRow : OpenClaim := { program := "ytodbmagneaiocaa", sum := "4af28b74cd3494d7af16258967a775366d2f862c79e06d978dfdd30e1f5cdfc0", func := "remora/remoralaw43.ArchAll", spec := "archAll", unfollowed := true, recurses := true, apart := false }
def ArchAllSaid : Prop := archAllRow.holds Try.pinned (OpenSpec.ofChange archAllSpec)

/-- ITS FALSE NEIGHBOUR: 'it returns false'. Refute it at one input. -/
def archAllWrong : ChangeSpec := { name := "archAll", fn := fun _ => fun
  | [d1, d2] => { results := [.lit (.bool false)], args := [d1, d2] }
  | _ => none }
def ArchAllWrongFalsely : Prop := archAllRow.holds Try.pinned (OpenSpec.ofChange archAllWrong)

/-- 'remoralaw43.ArchCommon': WHATEVER THE INPUT: true; the input reads as it did. -/
def archCommonSpec : ChangeSpec := { name := "archCommon", fn := fun _ => fun
  | [d1, d2] => { results := [.lit (.bool true)], args := [d1, d2] }
  | _ => none }
def archCommonRow : OpenClaim := { program := "ytodbmagneaiocaa", sum := "4af28b74cd3494d7af16258967a775366d2f862c79e06d978dfdd30e1f5cdfc0", func := "remora/remoralaw43.ArchCommon", spec := "archCommon", unfollowed := true, recurses := true, apart := false }
def ArchCommonSaid : Prop := archCommonRow.holds Try.pinned (OpenSpec.ofChange archCommonSpec)

/-- ITS FALSE NEIGHBOUR: 'it returns false'. Refute it at one input. -/
def archCommonWrong : ChangeSpec := { name := "archCommon", fn := fun _ => fun
  | [d1, d2] => { results := [.lit (.bool false)], args := [d1, d2] }
  | _ => none }
def ArchCommonWrongFalsely : Prop := archCommonRow.holds Try.pinned (OpenSpec.ofChange archCommonWrong)

/- THE SECOND FORM. 'bulk': how many values and letters a reading holds, each counted each time it is reached (what is shared counts as often as it is met; a slice's spare places count too). A statement '..UptoSaid' is the law's where the arguments, and the package variables that the reading takes, are together of bulk at most 1048576: NARROWER than '..Said'. Prove '..Said' where nothing that the law and all that it calls make is longer than what came in: it says more and counts as full. Else prove '..UptoSaid'. A law counts once. -/
mutual
def uptoBulk {H : Type} : DataW H → Nat
  | .lit (.string bytes) => bytes.length + 1
  | .lit _ => 1
  | .nil => 1
  | .ptr d => uptoBulk d + 1
  | .slice elems spare => uptoBulkAll elems + uptoBulkAll spare + 1
  | .agg parts => uptoBulkAll parts + 1
  | .iface _ d => uptoBulk d + 1
  | .map entries => uptoBulkEntries entries + 1
  | .held _ => 1
def uptoBulkAll {H : Type} : List (DataW H) → Nat
  | [] => 0
  | d :: r => uptoBulk d + uptoBulkAll r
def uptoBulkEntries {H : Type} : List (Lit × DataW H) → Nat
  | [] => 0
  | x :: r => uptoBulkEntry x + uptoBulkEntries r
def uptoBulkEntry {H : Type} : Lit × DataW H → Nat
  | (.string bytes, d) => bytes.length + uptoBulk d + 1
  | (_, d) => uptoBulk d + 1
 end
def uptoSmall : (H : Type) → List (DataW H) → Bool := fun _ ds => decide (uptoBulkAll ds ≤ 1048576)
def OpenSpec.upto (s : _root_.Go.ChangeSpec) : _root_.Go.OpenSpec := { _root_.Go.OpenSpec.ofChange s with cond := some uptoSmall }

/-- 'remoralaw43.ArchTurns', WHERE WHAT IT READS IS OF BULK AT MOST 1048576: true; the input reads as it did. -/
def archTurnsUptoRow : OpenClaim := { program := "ytodbmagneaiocaa", sum := "4af28b74cd3494d7af16258967a775366d2f862c79e06d978dfdd30e1f5cdfc0", func := "remora/remoralaw43.ArchTurns", spec := "archTurns", unfollowed := true, recurses := true, apart := false, narrowed := true }
def ArchTurnsUptoSaid : Prop := archTurnsUptoRow.holds Try.pinned (OpenSpec.upto archTurnsSpec)

/-- 'remoralaw43.ArchSince', WHERE WHAT IT READS IS OF BULK AT MOST 1048576: true; the input reads as it did. -/
def archSinceUptoRow : OpenClaim := { program := "ytodbmagneaiocaa", sum := "4af28b74cd3494d7af16258967a775366d2f862c79e06d978dfdd30e1f5cdfc0", func := "remora/remoralaw43.ArchSince", spec := "archSince", unfollowed := true, recurses := true, apart := false, narrowed := true }
def ArchSinceUptoSaid : Prop := archSinceUptoRow.holds Try.pinned (OpenSpec.upto archSinceSpec)

/-- 'remoralaw43.ArchApplies', WHERE WHAT IT READS IS OF BULK AT MOST 1048576: true; the input reads as it did. -/
def archAppliesUptoRow : OpenClaim := { program := "ytodbmagneaiocaa", sum := "4af28b74cd3494d7af16258967a775366d2f862c79e06d978dfdd30e1f5cdfc0", func := "remora/remoralaw43.ArchApplies", spec := "archApplies", unfollowed := true, recurses := true, apart := false, narrowed := true }
def ArchAppliesUptoSaid : Prop := archAppliesUptoRow.holds Try.pinned (OpenSpec.upto archAppliesSpec)

/-- 'remoralaw43.ArchParts', WHERE WHAT IT READS IS OF BULK AT MOST 1048576: true; the input reads as it did. -/
def archPartsUptoRow : OpenClaim := { program := "ytodbmagneaiocaa", sum := "4af28b74cd3494d7af16258967a775366d2f862c79e06d978dfdd30e1f5cdfc0", func := "remora/remoralaw43.ArchParts", spec := "archParts", unfollowed := true, recurses := true, apart := false, narrowed := true }
def ArchPartsUptoSaid : Prop := archPartsUptoRow.holds Try.pinned (OpenSpec.upto archPartsSpec)

/-- 'remoralaw43.ArchAll', WHERE WHAT IT READS IS OF BULK AT MOST 1048576: true; the input reads as it did. -/
def archAllUptoRow : OpenClaim := { program := "ytodbmagneaiocaa", sum := "4af28b74cd3494d7af16258967a775366d2f862c79e06d978dfdd30e1f5cdfc0", func := "remora/remoralaw43.ArchAll", spec := "archAll", unfollowed := true, recurses := true, apart := false, narrowed := true }
def ArchAllUptoSaid : Prop := archAllUptoRow.holds Try.pinned (OpenSpec.upto archAllSpec)

/-- 'remoralaw43.ArchCommon', WHERE WHAT IT READS IS OF BULK AT MOST 1048576: true; the input reads as it did. -/
def archCommonUptoRow : OpenClaim := { program := "ytodbmagneaiocaa", sum := "4af28b74cd3494d7af16258967a775366d2f862c79e06d978dfdd30e1f5cdfc0", func := "remora/remoralaw43.ArchCommon", spec := "archCommon", unfollowed := true, recurses := true, apart := false, narrowed := true }
def ArchCommonUptoSaid : Prop := archCommonUptoRow.holds Try.pinned (OpenSpec.upto archCommonSpec)

end Rows
end Go.Proofs.Ytodbmagneaiocaa
