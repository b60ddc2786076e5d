/-
  NARROWER THAN 'FOR EVERY INPUT', by the rows' own cells (each row's printed sentence says how): FlistChecks: laid · FlistBytes: laid · FlistPlaces: laid · FlistReads: laid · FlistBack: laid · FlistSorts: laid · FlistFinds: laid.
  DERIVED. THE GIVEN ROWS OF THIS SEAT. 7 by the template 'for every input the law returns true; each argument reads behind the call as it read before'; 0 by the template 'total and deterministic' (their statements: YtcdmgdegohcmhaaDoorTotals.lean).
  GIVEN WITH THE SEED: the statements are not yours to turn. If you find one false, say at which input.
  Laid BY PROGRAM, IN A SANDBOX (cutbox-rows.mjs): the forced cells as the released guide's own fill.sh prints them over the translation 2d44c9aca2552034… (all of the seat's roots in one cut). By AI agents, Wed Nov 11 2026. No macro, syntax, notation, axiom, sorry.
-/
import Derived.Test.YtcdmgdegohcmhaaDoorChecked
import GoSem.Claim
import GoSem.ClaimJoined
import GoSem.ClaimMapViews
import Derived.JoinedTies
import Derived.KernelRfl
namespace Go.Proofs.YtcdmgdegohcmhaaDoor
/- THE CELL 'sum', in the pinned program and in every row, IS THE sha256 OF THE DUMP (.gsa) THAT YtcdmgdegohcmhaaDoorProg.lean LOADS. Nothing in Lean hashes anything: it is a label: what it is worth is what the hold of that sum in a sandbox is worth. -/
noncomputable def Tryd.pinned : Pinned := { name := "ytcdmgdegohcmhaadoor", sum := "2d44c9aca2552034a342df4dc483fc6ebcb1425d4108014b7135c2f99f8893a8", checked := Tryd.checked }
namespace Rows
def none {H : Type} : Left H := { results := [], args := [] }

/- WHAT THE LISTED PACKAGE-LEVEL VARIABLES READ AS WHEN THE CALL BEGINS. Each datum BY PROGRAM (the guide's laid-datum.mjs) off the statement by which the dump's own 'gosem.cut.vars' lays the variable. In a bare row this is a premise. The card (YtcdmgdegohcmhaaDoorCards.lean) ties it to the program's text. -/
def laid_remora_crc_table {H : Type} : DataW H := .agg [.lit (.int .u32 0), .lit (.int .u32 498536548), .lit (.int .u32 997073096), .lit (.int .u32 651767980), .lit (.int .u32 1994146192), .lit (.int .u32 1802195444), .lit (.int .u32 1303535960), .lit (.int .u32 1342533948), .lit (.int .u32 3988292384), .lit (.int .u32 4027552580), .lit (.int .u32 3604390888), .lit (.int .u32 3412177804), .lit (.int .u32 2607071920), .lit (.int .u32 2262029012), .lit (.int .u32 2685067896), .lit (.int .u32 3183342108)]

/-- 'remoralaw20.FlistChecks': WHATEVER THE INPUT: true; the input reads as it did. -/
def flistChecksSpec : ChangeSpec := { name := "flistChecks", fn := fun _ => fun
  | [d] => { results := [.lit (.bool true)], args := [d] }
  | _ => none }
def flistChecksRow : OpenClaim := { program := "ytcdmgdegohcmhaadoor", sum := "2d44c9aca2552034a342df4dc483fc6ebcb1425d4108014b7135c2f99f8893a8", func := "remora/remoralaw20.FlistChecks", spec := "flistChecks", inPlace := ["internal/bytealg.IndexByteString"], unfollowed := true, recurses := true, named := ["remora/crc.table"], apart := false, laid := [("remora/crc.table", laid_remora_crc_table)] }
def FlistChecksSaid : Prop := flistChecksRow.holds Tryd.pinned (OpenSpec.ofChange flistChecksSpec)

/-- ITS FALSE NEIGHBOUR: 'it returns false'. Refute it at one input. -/
def flistChecksWrong : ChangeSpec := { name := "flistChecks", fn := fun _ => fun
  | [d] => { results := [.lit (.bool false)], args := [d] }
  | _ => none }
def FlistChecksWrongFalsely : Prop := flistChecksRow.holds Tryd.pinned (OpenSpec.ofChange flistChecksWrong)

/-- 'remoralaw20.FlistBytes': WHATEVER THE INPUT: true; the input reads as it did. -/
def flistBytesSpec : ChangeSpec := { name := "flistBytes", fn := fun _ => fun
  | [d] => { results := [.lit (.bool true)], args := [d] }
  | _ => none }
def flistBytesRow : OpenClaim := { program := "ytcdmgdegohcmhaadoor", sum := "2d44c9aca2552034a342df4dc483fc6ebcb1425d4108014b7135c2f99f8893a8", func := "remora/remoralaw20.FlistBytes", spec := "flistBytes", inPlace := ["internal/bytealg.IndexByteString"], unfollowed := true, recurses := true, named := ["remora/crc.table"], apart := false, laid := [("remora/crc.table", laid_remora_crc_table)] }
def FlistBytesSaid : Prop := flistBytesRow.holds Tryd.pinned (OpenSpec.ofChange flistBytesSpec)

/-- ITS FALSE NEIGHBOUR: 'it returns false'. Refute it at one input. -/
def flistBytesWrong : ChangeSpec := { name := "flistBytes", fn := fun _ => fun
  | [d] => { results := [.lit (.bool false)], args := [d] }
  | _ => none }
def FlistBytesWrongFalsely : Prop := flistBytesRow.holds Tryd.pinned (OpenSpec.ofChange flistBytesWrong)

/-- 'remoralaw20.FlistPlaces': WHATEVER THE INPUT: true; the input reads as it did. -/
def flistPlacesSpec : ChangeSpec := { name := "flistPlaces", fn := fun _ => fun
  | [d] => { results := [.lit (.bool true)], args := [d] }
  | _ => none }
def flistPlacesRow : OpenClaim := { program := "ytcdmgdegohcmhaadoor", sum := "2d44c9aca2552034a342df4dc483fc6ebcb1425d4108014b7135c2f99f8893a8", func := "remora/remoralaw20.FlistPlaces", spec := "flistPlaces", inPlace := ["internal/bytealg.IndexByteString"], unfollowed := true, recurses := true, named := ["remora/crc.table"], apart := false, laid := [("remora/crc.table", laid_remora_crc_table)] }
def FlistPlacesSaid : Prop := flistPlacesRow.holds Tryd.pinned (OpenSpec.ofChange flistPlacesSpec)

/-- ITS FALSE NEIGHBOUR: 'it returns false'. Refute it at one input. -/
def flistPlacesWrong : ChangeSpec := { name := "flistPlaces", fn := fun _ => fun
  | [d] => { results := [.lit (.bool false)], args := [d] }
  | _ => none }
def FlistPlacesWrongFalsely : Prop := flistPlacesRow.holds Tryd.pinned (OpenSpec.ofChange flistPlacesWrong)

/-- 'remoralaw20.FlistReads': WHATEVER THE INPUT: true; the input reads as it did. -/
def flistReadsSpec : ChangeSpec := { name := "flistReads", fn := fun _ => fun
  | [d1, d2] => { results := [.lit (.bool true)], args := [d1, d2] }
  | _ => none }
def flistReadsRow : OpenClaim := { program := "ytcdmgdegohcmhaadoor", sum := "2d44c9aca2552034a342df4dc483fc6ebcb1425d4108014b7135c2f99f8893a8", func := "remora/remoralaw20.FlistReads", spec := "flistReads", inPlace := ["internal/bytealg.IndexByteString", "internal/bytealg.abigen_runtime_cmpstring"], unfollowed := true, recurses := true, named := ["remora/crc.table"], apart := false, laid := [("remora/crc.table", laid_remora_crc_table)] }
def FlistReadsSaid : Prop := flistReadsRow.holds Tryd.pinned (OpenSpec.ofChange flistReadsSpec)

/-- ITS FALSE NEIGHBOUR: 'it returns false'. Refute it at one input. -/
def flistReadsWrong : ChangeSpec := { name := "flistReads", fn := fun _ => fun
  | [d1, d2] => { results := [.lit (.bool false)], args := [d1, d2] }
  | _ => none }
def FlistReadsWrongFalsely : Prop := flistReadsRow.holds Tryd.pinned (OpenSpec.ofChange flistReadsWrong)

/-- 'remoralaw20.FlistBack': WHATEVER THE INPUT: true; the input reads as it did. -/
def flistBackSpec : ChangeSpec := { name := "flistBack", fn := fun _ => fun
  | [d1, d2, d3] => { results := [.lit (.bool true)], args := [d1, d2, d3] }
  | _ => none }
def flistBackRow : OpenClaim := { program := "ytcdmgdegohcmhaadoor", sum := "2d44c9aca2552034a342df4dc483fc6ebcb1425d4108014b7135c2f99f8893a8", func := "remora/remoralaw20.FlistBack", spec := "flistBack", inPlace := ["internal/bytealg.IndexByteString", "internal/bytealg.abigen_runtime_cmpstring"], unfollowed := true, recurses := true, named := ["remora/crc.table"], apart := false, laid := [("remora/crc.table", laid_remora_crc_table)] }
def FlistBackSaid : Prop := flistBackRow.holds Tryd.pinned (OpenSpec.ofChange flistBackSpec)

/-- ITS FALSE NEIGHBOUR: 'it returns false'. Refute it at one input. -/
def flistBackWrong : ChangeSpec := { name := "flistBack", fn := fun _ => fun
  | [d1, d2, d3] => { results := [.lit (.bool false)], args := [d1, d2, d3] }
  | _ => none }
def FlistBackWrongFalsely : Prop := flistBackRow.holds Tryd.pinned (OpenSpec.ofChange flistBackWrong)

/-- 'remoralaw20.FlistSorts': WHATEVER THE INPUT: true; the input reads as it did. -/
def flistSortsSpec : ChangeSpec := { name := "flistSorts", fn := fun _ => fun
  | [d1, d2] => { results := [.lit (.bool true)], args := [d1, d2] }
  | _ => none }
def flistSortsRow : OpenClaim := { program := "ytcdmgdegohcmhaadoor", sum := "2d44c9aca2552034a342df4dc483fc6ebcb1425d4108014b7135c2f99f8893a8", func := "remora/remoralaw20.FlistSorts", spec := "flistSorts", inPlace := ["internal/bytealg.IndexByteString"], unfollowed := true, recurses := true, named := ["remora/crc.table"], apart := false, laid := [("remora/crc.table", laid_remora_crc_table)] }
def FlistSortsSaid : Prop := flistSortsRow.holds Tryd.pinned (OpenSpec.ofChange flistSortsSpec)

/-- ITS FALSE NEIGHBOUR: 'it returns false'. Refute it at one input. -/
def flistSortsWrong : ChangeSpec := { name := "flistSorts", fn := fun _ => fun
  | [d1, d2] => { results := [.lit (.bool false)], args := [d1, d2] }
  | _ => none }
def FlistSortsWrongFalsely : Prop := flistSortsRow.holds Tryd.pinned (OpenSpec.ofChange flistSortsWrong)

/-- 'remoralaw20.FlistFinds': WHATEVER THE INPUT: true; the input reads as it did. -/
def flistFindsSpec : ChangeSpec := { name := "flistFinds", fn := fun _ => fun
  | [d1, d2] => { results := [.lit (.bool true)], args := [d1, d2] }
  | _ => none }
def flistFindsRow : OpenClaim := { program := "ytcdmgdegohcmhaadoor", sum := "2d44c9aca2552034a342df4dc483fc6ebcb1425d4108014b7135c2f99f8893a8", func := "remora/remoralaw20.FlistFinds", spec := "flistFinds", inPlace := ["internal/bytealg.IndexByteString"], unfollowed := true, recurses := true, named := ["remora/crc.table"], apart := false, laid := [("remora/crc.table", laid_remora_crc_table)] }
def FlistFindsSaid : Prop := flistFindsRow.holds Tryd.pinned (OpenSpec.ofChange flistFindsSpec)

/-- ITS FALSE NEIGHBOUR: 'it returns false'. Refute it at one input. -/
def flistFindsWrong : ChangeSpec := { name := "flistFinds", fn := fun _ => fun
  | [d1, d2] => { results := [.lit (.bool false)], args := [d1, d2] }
  | _ => none }
def FlistFindsWrongFalsely : Prop := flistFindsRow.holds Tryd.pinned (OpenSpec.ofChange flistFindsWrong)

/- THE SECOND FORM. 'bulk': how many values and letters a reading holds, each counted each time it is reached (what is shared counts as often as it is met; a slice's spare places count too). A statement '..UptoSaid' is the law's where the arguments, and the package variables that the reading takes, are together of bulk at most 1048576: NARROWER than '..Said'. Prove '..Said' where nothing that the law and all that it calls make is longer than what came in: it says more and counts as full. Else prove '..UptoSaid'. A law counts once. -/
mutual
def uptoBulk {H : Type} : DataW H → Nat
  | .lit (.string bytes) => bytes.length + 1
  | .lit _ => 1
  | .nil => 1
  | .ptr d => uptoBulk d + 1
  | .slice elems spare => uptoBulkAll elems + uptoBulkAll spare + 1
  | .agg parts => uptoBulkAll parts + 1
  | .iface _ d => uptoBulk d + 1
  | .map entries => uptoBulkEntries entries + 1
  | .held _ => 1
def uptoBulkAll {H : Type} : List (DataW H) → Nat
  | [] => 0
  | d :: r => uptoBulk d + uptoBulkAll r
def uptoBulkEntries {H : Type} : List (Lit × DataW H) → Nat
  | [] => 0
  | x :: r => uptoBulkEntry x + uptoBulkEntries r
def uptoBulkEntry {H : Type} : Lit × DataW H → Nat
  | (.string bytes, d) => bytes.length + uptoBulk d + 1
  | (_, d) => uptoBulk d + 1
 end
def uptoSmall : (H : Type) → List (DataW H) → Bool := fun _ ds => decide (uptoBulkAll ds ≤ 1048576)
def OpenSpec.upto (s : _root_.Go.ChangeSpec) : _root_.Go.OpenSpec := { _root_.Go.OpenSpec.ofChange s with cond := some uptoSmall }

/-- 'remoralaw20.FlistChecks', WHERE WHAT IT READS IS OF BULK AT MOST 1048576: true; the input reads as it did. -/
def flistChecksUptoRow : OpenClaim := { program := "ytcdmgdegohcmhaadoor", sum := "2d44c9aca2552034a342df4dc483fc6ebcb1425d4108014b7135c2f99f8893a8", func := "remora/remoralaw20.FlistChecks", spec := "flistChecks", inPlace := ["internal/bytealg.IndexByteString"], unfollowed := true, recurses := true, named := ["remora/crc.table"], apart := false, laid := [("remora/crc.table", laid_remora_crc_table)], narrowed := true }
def FlistChecksUptoSaid : Prop := flistChecksUptoRow.holds Tryd.pinned (OpenSpec.upto flistChecksSpec)

/-- 'remoralaw20.FlistBytes', WHERE WHAT IT READS IS OF BULK AT MOST 1048576: true; the input reads as it did. -/
def flistBytesUptoRow : OpenClaim := { program := "ytcdmgdegohcmhaadoor", sum := "2d44c9aca2552034a342df4dc483fc6ebcb1425d4108014b7135c2f99f8893a8", func := "remora/remoralaw20.FlistBytes", spec := "flistBytes", inPlace := ["internal/bytealg.IndexByteString"], unfollowed := true, recurses := true, named := ["remora/crc.table"], apart := false, laid := [("remora/crc.table", laid_remora_crc_table)], narrowed := true }
def FlistBytesUptoSaid : Prop := flistBytesUptoRow.holds Tryd.pinned (OpenSpec.upto flistBytesSpec)

/-- 'remoralaw20.FlistPlaces', WHERE WHAT IT READS IS OF BULK AT MOST 1048576: true; the input reads as it did. -/
def flistPlacesUptoRow : OpenClaim := { program := "ytcdmgdegohcmhaadoor", sum := "2d44c9aca2552034a342df4dc483fc6ebcb1425d4108014b7135c2f99f8893a8", func := "remora/remoralaw20.FlistPlaces", spec := "flistPlaces", inPlace := ["internal/bytealg.IndexByteString"], unfollowed := true, recurses := true, named := ["remora/crc.table"], apart := false, laid := [("remora/crc.table", laid_remora_crc_table)], narrowed := true }
def FlistPlacesUptoSaid : Prop := flistPlacesUptoRow.holds Tryd.pinned (OpenSpec.upto flistPlacesSpec)

/-- 'remoralaw20.FlistReads', WHERE WHAT IT READS IS OF BULK AT MOST 1048576: true; the input reads as it did. -/
def flistReadsUptoRow : OpenClaim := { program := "ytcdmgdegohcmhaadoor", sum := "2d44c9aca2552034a342df4dc483fc6ebcb1425d4108014b7135c2f99f8893a8", func := "remora/remoralaw20.FlistReads", spec := "flistReads", inPlace := ["internal/bytealg.IndexByteString", "internal/bytealg.abigen_runtime_cmpstring"], unfollowed := true, recurses := true, named := ["remora/crc.table"], apart := false, laid := [("remora/crc.table", laid_remora_crc_table)], narrowed := true }
def FlistReadsUptoSaid : Prop := flistReadsUptoRow.holds Tryd.pinned (OpenSpec.upto flistReadsSpec)

/-- 'remoralaw20.FlistBack', WHERE WHAT IT READS IS OF BULK AT MOST 1048576: true; the input reads as it did. -/
def flistBackUptoRow : OpenClaim := { program := "ytcdmgdegohcmhaadoor", sum := "2d44c9aca2552034a342df4dc483fc6ebcb1425d4108014b7135c2f99f8893a8", func := "remora/remoralaw20.FlistBack", spec := "flistBack", inPlace := ["internal/bytealg.IndexByteString", "internal/bytealg.abigen_runtime_cmpstring"], unfollowed := true, recurses := true, named := ["remora/crc.table"], apart := false, laid := [("remora/crc.table", laid_remora_crc_table)], narrowed := true }
def FlistBackUptoSaid : Prop := flistBackUptoRow.holds Tryd.pinned (OpenSpec.upto flistBackSpec)

/-- 'remoralaw20.FlistSorts', WHERE WHAT IT READS IS OF BULK AT MOST 1048576: true; the input reads as it did. -/
def flistSortsUptoRow : OpenClaim := { program := "ytcdmgdegohcmhaadoor", sum := "2d44c9aca2552034a342df4dc483fc6ebcb1425d4108014b7135c2f99f8893a8", func := "remora/remoralaw20.FlistSorts", spec := "flistSorts", inPlace := ["internal/bytealg.IndexByteString"], unfollowed := true, recurses := true, named := ["remora/crc.table"], apart := false, laid := [("remora/crc.table", laid_remora_crc_table)], narrowed := true }
def FlistSortsUptoSaid : Prop := flistSortsUptoRow.holds Tryd.pinned (OpenSpec.upto flistSortsSpec)

/-- 'remoralaw20.FlistFinds', WHERE WHAT IT READS IS OF BULK AT MOST 1048576: true; the input reads as it did. -/
def flistFindsUptoRow : OpenClaim := { program := "ytcdmgdegohcmhaadoor", sum := "2d44c9aca2552034a342df4dc483fc6ebcb1425d4108014b7135c2f99f8893a8", func := "remora/remoralaw20.FlistFinds", spec := "flistFinds", inPlace := ["internal/bytealg.IndexByteString"], unfollowed := true, recurses := true, named := ["remora/crc.table"], apart := false, laid := [("remora/crc.table", laid_remora_crc_table)], narrowed := true }
def FlistFindsUptoSaid : Prop := flistFindsUptoRow.holds Tryd.pinned (OpenSpec.upto flistFindsSpec)

end Rows
end Go.Proofs.YtcdmgdegohcmhaaDoor
