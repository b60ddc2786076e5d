/-
  NARROWER THAN 'FOR EVERY INPUT', by the rows' own cells (each row's printed sentence says how): RulesParses: laid · RulesActs: laid · RulesIdle: laid · RulesParts: laid · RulesMays: laid · RulesBack: laid · RulesBelow: laid.
  DERIVED. THE GIVEN ROWS OF THIS SEAT. 7 by the template 'for every input the law returns true; each argument reads behind the call as it read before'; 0 by the template 'total and deterministic' (their statements: YtioehkeocddniaaDoorTotals.lean).
  GIVEN WITH THE SEED: the statements are not yours to turn. If you find one false, say at which input.
  Laid BY PROGRAM, IN A SANDBOX (cutbox-rows.mjs): the forced cells as the released guide's own fill.sh prints them over the translation bbc81652df195d18… (all of the seat's roots in one cut). By AI agents, Wed Nov 11 2026. No macro, syntax, notation, axiom, sorry.
-/
import Derived.Test.YtioehkeocddniaaDoorChecked
import GoSem.PinnedTables
import GoSem.Claim
import GoSem.ClaimJoined
import GoSem.ClaimMapViews
import Derived.JoinedTies
import Derived.KernelRfl
namespace Go.Proofs.YtioehkeocddniaaDoor
/- THE CELL 'sum', in the pinned program and in every row, IS THE sha256 OF THE DUMP (.gsa) THAT YtioehkeocddniaaDoorProg.lean LOADS. Nothing in Lean hashes anything: it is a label: what it is worth is what the hold of that sum in a sandbox is worth. -/
noncomputable def Tryd.pinned : Pinned := { name := "ytioehkeocddniaadoor", sum := "bbc81652df195d1844e722edd0a09c22911c7e764ef5dc2142686e1adfe9835b", checked := Tryd.checked }
namespace Rows
def none {H : Type} : Left H := { results := [], args := [] }

/- WHAT THE LISTED PACKAGE-LEVEL VARIABLES READ AS WHEN THE CALL BEGINS. Each datum BY PROGRAM (the guide's laid-datum.mjs) off the statement by which the dump's own 'gosem.cut.vars' lays the variable. In a bare row this is a premise. The card (YtioehkeocddniaaDoorCards.lean) ties it to the program's text. -/
def laid_unicode_utf8_acceptRanges {H : Type} : DataW H := .agg [.agg [.lit (.int .u8 128), .lit (.int .u8 191)], .agg [.lit (.int .u8 160), .lit (.int .u8 191)], .agg [.lit (.int .u8 128), .lit (.int .u8 159)], .agg [.lit (.int .u8 144), .lit (.int .u8 191)], .agg [.lit (.int .u8 128), .lit (.int .u8 143)], .agg [.lit (.int .u8 0), .lit (.int .u8 0)], .agg [.lit (.int .u8 0), .lit (.int .u8 0)], .agg [.lit (.int .u8 0), .lit (.int .u8 0)], .agg [.lit (.int .u8 0), .lit (.int .u8 0)], .agg [.lit (.int .u8 0), .lit (.int .u8 0)], .agg [.lit (.int .u8 0), .lit (.int .u8 0)], .agg [.lit (.int .u8 0), .lit (.int .u8 0)], .agg [.lit (.int .u8 0), .lit (.int .u8 0)], .agg [.lit (.int .u8 0), .lit (.int .u8 0)], .agg [.lit (.int .u8 0), .lit (.int .u8 0)], .agg [.lit (.int .u8 0), .lit (.int .u8 0)]]
/-- One of Go's own tables, pinned by name: the form's constant. -/
def laid_unicode_utf8_first : DataW Unit := Go.Pinned.utf8First

/-- 'remoralaw15.RulesParses': WHATEVER THE INPUT: true; the input reads as it did. -/
def rulesParsesSpec : ChangeSpec := { name := "rulesParses", fn := fun _ => fun
  | [d] => { results := [.lit (.bool true)], args := [d] }
  | _ => none }
def rulesParsesRow : OpenClaim := { program := "ytioehkeocddniaadoor", sum := "bbc81652df195d1844e722edd0a09c22911c7e764ef5dc2142686e1adfe9835b", func := "remora/remoralaw15.RulesParses", spec := "rulesParses", inPlace := ["internal/bytealg.IndexByteString", "internal/bytealg.IndexString", "internal/bytealg.CountString"], named := ["internal/bytealg.MaxLen", "unicode/utf8.first", "unicode/utf8.acceptRanges"], apart := false, laid := [("unicode/utf8.acceptRanges", laid_unicode_utf8_acceptRanges), ("unicode/utf8.first", laid_unicode_utf8_first)] }
def RulesParsesSaid : Prop := rulesParsesRow.holds Tryd.pinned (OpenSpec.ofChange rulesParsesSpec)

/-- ITS FALSE NEIGHBOUR: 'it returns false'. Refute it at one input. -/
def rulesParsesWrong : ChangeSpec := { name := "rulesParses", fn := fun _ => fun
  | [d] => { results := [.lit (.bool false)], args := [d] }
  | _ => none }
def RulesParsesWrongFalsely : Prop := rulesParsesRow.holds Tryd.pinned (OpenSpec.ofChange rulesParsesWrong)

/-- 'remoralaw15.RulesActs': WHATEVER THE INPUT: true; the input reads as it did. -/
def rulesActsSpec : ChangeSpec := { name := "rulesActs", fn := fun _ => fun
  | [d1, d2, d3, d4] => { results := [.lit (.bool true)], args := [d1, d2, d3, d4] }
  | _ => none }
def rulesActsRow : OpenClaim := { program := "ytioehkeocddniaadoor", sum := "bbc81652df195d1844e722edd0a09c22911c7e764ef5dc2142686e1adfe9835b", func := "remora/remoralaw15.RulesActs", spec := "rulesActs", inPlace := ["internal/bytealg.IndexByteString", "internal/bytealg.IndexString", "internal/bytealg.CountString"], named := ["internal/bytealg.MaxLen", "unicode/utf8.first", "unicode/utf8.acceptRanges"], apart := false, laid := [("unicode/utf8.acceptRanges", laid_unicode_utf8_acceptRanges), ("unicode/utf8.first", laid_unicode_utf8_first)] }
def RulesActsSaid : Prop := rulesActsRow.holds Tryd.pinned (OpenSpec.ofChange rulesActsSpec)

/-- ITS FALSE NEIGHBOUR: 'it returns false'. Refute it at one input. -/
def rulesActsWrong : ChangeSpec := { name := "rulesActs", fn := fun _ => fun
  | [d1, d2, d3, d4] => { results := [.lit (.bool false)], args := [d1, d2, d3, d4] }
  | _ => none }
def RulesActsWrongFalsely : Prop := rulesActsRow.holds Tryd.pinned (OpenSpec.ofChange rulesActsWrong)

/-- 'remoralaw15.RulesIdle': WHATEVER THE INPUT: true; the input reads as it did. -/
def rulesIdleSpec : ChangeSpec := { name := "rulesIdle", fn := fun _ => fun
  | [d1, d2, d3, d4, d5] => { results := [.lit (.bool true)], args := [d1, d2, d3, d4, d5] }
  | _ => none }
def rulesIdleRow : OpenClaim := { program := "ytioehkeocddniaadoor", sum := "bbc81652df195d1844e722edd0a09c22911c7e764ef5dc2142686e1adfe9835b", func := "remora/remoralaw15.RulesIdle", spec := "rulesIdle", inPlace := ["internal/bytealg.IndexByteString", "internal/bytealg.IndexString", "internal/bytealg.CountString"], named := ["internal/bytealg.MaxLen", "unicode/utf8.first", "unicode/utf8.acceptRanges"], apart := false, laid := [("unicode/utf8.acceptRanges", laid_unicode_utf8_acceptRanges), ("unicode/utf8.first", laid_unicode_utf8_first)] }
def RulesIdleSaid : Prop := rulesIdleRow.holds Tryd.pinned (OpenSpec.ofChange rulesIdleSpec)

/-- ITS FALSE NEIGHBOUR: 'it returns false'. Refute it at one input. -/
def rulesIdleWrong : ChangeSpec := { name := "rulesIdle", fn := fun _ => fun
  | [d1, d2, d3, d4, d5] => { results := [.lit (.bool false)], args := [d1, d2, d3, d4, d5] }
  | _ => none }
def RulesIdleWrongFalsely : Prop := rulesIdleRow.holds Tryd.pinned (OpenSpec.ofChange rulesIdleWrong)

/-- 'remoralaw15.RulesParts': WHATEVER THE INPUT: true; the input reads as it did. -/
def rulesPartsSpec : ChangeSpec := { name := "rulesParts", fn := fun _ => fun
  | [d1, d2, d3] => { results := [.lit (.bool true)], args := [d1, d2, d3] }
  | _ => none }
def rulesPartsRow : OpenClaim := { program := "ytioehkeocddniaadoor", sum := "bbc81652df195d1844e722edd0a09c22911c7e764ef5dc2142686e1adfe9835b", func := "remora/remoralaw15.RulesParts", spec := "rulesParts", inPlace := ["internal/bytealg.IndexByteString", "internal/bytealg.IndexString", "internal/bytealg.CountString"], named := ["internal/bytealg.MaxLen", "unicode/utf8.first", "unicode/utf8.acceptRanges"], apart := false, laid := [("unicode/utf8.acceptRanges", laid_unicode_utf8_acceptRanges), ("unicode/utf8.first", laid_unicode_utf8_first)] }
def RulesPartsSaid : Prop := rulesPartsRow.holds Tryd.pinned (OpenSpec.ofChange rulesPartsSpec)

/-- ITS FALSE NEIGHBOUR: 'it returns false'. Refute it at one input. -/
def rulesPartsWrong : ChangeSpec := { name := "rulesParts", fn := fun _ => fun
  | [d1, d2, d3] => { results := [.lit (.bool false)], args := [d1, d2, d3] }
  | _ => none }
def RulesPartsWrongFalsely : Prop := rulesPartsRow.holds Tryd.pinned (OpenSpec.ofChange rulesPartsWrong)

/-- 'remoralaw15.RulesMays': WHATEVER THE INPUT: true; the input reads as it did. -/
def rulesMaysSpec : ChangeSpec := { name := "rulesMays", fn := fun _ => fun
  | [d] => { results := [.lit (.bool true)], args := [d] }
  | _ => none }
def rulesMaysRow : OpenClaim := { program := "ytioehkeocddniaadoor", sum := "bbc81652df195d1844e722edd0a09c22911c7e764ef5dc2142686e1adfe9835b", func := "remora/remoralaw15.RulesMays", spec := "rulesMays", inPlace := ["internal/bytealg.IndexByteString", "internal/bytealg.IndexString", "internal/bytealg.CountString"], named := ["internal/bytealg.MaxLen", "unicode/utf8.first", "unicode/utf8.acceptRanges"], apart := false, laid := [("unicode/utf8.acceptRanges", laid_unicode_utf8_acceptRanges), ("unicode/utf8.first", laid_unicode_utf8_first)] }
def RulesMaysSaid : Prop := rulesMaysRow.holds Tryd.pinned (OpenSpec.ofChange rulesMaysSpec)

/-- ITS FALSE NEIGHBOUR: 'it returns false'. Refute it at one input. -/
def rulesMaysWrong : ChangeSpec := { name := "rulesMays", fn := fun _ => fun
  | [d] => { results := [.lit (.bool false)], args := [d] }
  | _ => none }
def RulesMaysWrongFalsely : Prop := rulesMaysRow.holds Tryd.pinned (OpenSpec.ofChange rulesMaysWrong)

/-- 'remoralaw15.RulesBack': WHATEVER THE INPUT: true; the input reads as it did. -/
def rulesBackSpec : ChangeSpec := { name := "rulesBack", fn := fun _ => fun
  | [d1, d2] => { results := [.lit (.bool true)], args := [d1, d2] }
  | _ => none }
def rulesBackRow : OpenClaim := { program := "ytioehkeocddniaadoor", sum := "bbc81652df195d1844e722edd0a09c22911c7e764ef5dc2142686e1adfe9835b", func := "remora/remoralaw15.RulesBack", spec := "rulesBack", inPlace := ["internal/bytealg.IndexByteString", "internal/bytealg.IndexString", "internal/bytealg.CountString"], named := ["internal/bytealg.MaxLen", "unicode/utf8.first", "unicode/utf8.acceptRanges"], apart := false, laid := [("unicode/utf8.acceptRanges", laid_unicode_utf8_acceptRanges), ("unicode/utf8.first", laid_unicode_utf8_first)] }
def RulesBackSaid : Prop := rulesBackRow.holds Tryd.pinned (OpenSpec.ofChange rulesBackSpec)

/-- ITS FALSE NEIGHBOUR: 'it returns false'. Refute it at one input. -/
def rulesBackWrong : ChangeSpec := { name := "rulesBack", fn := fun _ => fun
  | [d1, d2] => { results := [.lit (.bool false)], args := [d1, d2] }
  | _ => none }
def RulesBackWrongFalsely : Prop := rulesBackRow.holds Tryd.pinned (OpenSpec.ofChange rulesBackWrong)

/-- 'remoralaw15.RulesBelow': WHATEVER THE INPUT: true; the input reads as it did. -/
def rulesBelowSpec : ChangeSpec := { name := "rulesBelow", fn := fun _ => fun
  | [d1, d2, d3, d4] => { results := [.lit (.bool true)], args := [d1, d2, d3, d4] }
  | _ => none }
def rulesBelowRow : OpenClaim := { program := "ytioehkeocddniaadoor", sum := "bbc81652df195d1844e722edd0a09c22911c7e764ef5dc2142686e1adfe9835b", func := "remora/remoralaw15.RulesBelow", spec := "rulesBelow", inPlace := ["internal/bytealg.IndexByteString", "internal/bytealg.IndexString", "internal/bytealg.CountString", "internal/abi.NoEscape", "internal/bytealg.MakeNoZero"], named := ["internal/bytealg.MaxLen", "unicode/utf8.first", "unicode/utf8.acceptRanges"], apart := false, laid := [("unicode/utf8.acceptRanges", laid_unicode_utf8_acceptRanges), ("unicode/utf8.first", laid_unicode_utf8_first)] }
def RulesBelowSaid : Prop := rulesBelowRow.holds Tryd.pinned (OpenSpec.ofChange rulesBelowSpec)

/-- ITS FALSE NEIGHBOUR: 'it returns false'. Refute it at one input. -/
def rulesBelowWrong : ChangeSpec := { name := "rulesBelow", fn := fun _ => fun
  | [d1, d2, d3, d4] => { results := [.lit (.bool false)], args := [d1, d2, d3, d4] }
  | _ => none }
def RulesBelowWrongFalsely : Prop := rulesBelowRow.holds Tryd.pinned (OpenSpec.ofChange rulesBelowWrong)

/- THE SECOND FORM. 'bulk': how many values and letters a reading holds, each counted each time it is reached (what is shared counts as often as it is met; a slice's spare places count too). A statement '..UptoSaid' is the law's where the arguments, and the package variables that the reading takes, are together of bulk at most 1048576: NARROWER than '..Said'. Prove '..Said' where nothing that the law and all that it calls make is longer than what came in: it says more and counts as full. Else prove '..UptoSaid'. A law counts once. -/
mutual
def uptoBulk {H : Type} : DataW H → Nat
  | .lit (.string bytes) => bytes.length + 1
  | .lit _ => 1
  | .nil => 1
  | .ptr d => uptoBulk d + 1
  | .slice elems spare => uptoBulkAll elems + uptoBulkAll spare + 1
  | .agg parts => uptoBulkAll parts + 1
  | .iface _ d => uptoBulk d + 1
  | .map entries => uptoBulkEntries entries + 1
  | .held _ => 1
def uptoBulkAll {H : Type} : List (DataW H) → Nat
  | [] => 0
  | d :: r => uptoBulk d + uptoBulkAll r
def uptoBulkEntries {H : Type} : List (Lit × DataW H) → Nat
  | [] => 0
  | x :: r => uptoBulkEntry x + uptoBulkEntries r
def uptoBulkEntry {H : Type} : Lit × DataW H → Nat
  | (.string bytes, d) => bytes.length + uptoBulk d + 1
  | (_, d) => uptoBulk d + 1
 end
def uptoSmall : (H : Type) → List (DataW H) → Bool := fun _ ds => decide (uptoBulkAll ds ≤ 1048576)
def OpenSpec.upto (s : _root_.Go.ChangeSpec) : _root_.Go.OpenSpec := { _root_.Go.OpenSpec.ofChange s with cond := some uptoSmall }

/-- 'remoralaw15.RulesParses', WHERE WHAT IT READS IS OF BULK AT MOST 1048576: true; the input reads as it did. -/
def rulesParsesUptoRow : OpenClaim := { program := "ytioehkeocddniaadoor", sum := "bbc81652df195d1844e722edd0a09c22911c7e764ef5dc2142686e1adfe9835b", func := "remora/remoralaw15.RulesParses", spec := "rulesParses", inPlace := ["internal/bytealg.IndexByteString", "internal/bytealg.IndexString", "internal/bytealg.CountString"], named := ["internal/bytealg.MaxLen", "unicode/utf8.first", "unicode/utf8.acceptRanges"], apart := false, laid := [("unicode/utf8.acceptRanges", laid_unicode_utf8_acceptRanges), ("unicode/utf8.first", laid_unicode_utf8_first)], narrowed := true }
def RulesParsesUptoSaid : Prop := rulesParsesUptoRow.holds Tryd.pinned (OpenSpec.upto rulesParsesSpec)

/-- 'remoralaw15.RulesActs', WHERE WHAT IT READS IS OF BULK AT MOST 1048576: true; the input reads as it did. -/
def rulesActsUptoRow : OpenClaim := { program := "ytioehkeocddniaadoor", sum := "bbc81652df195d1844e722edd0a09c22911c7e764ef5dc2142686e1adfe9835b", func := "remora/remoralaw15.RulesActs", spec := "rulesActs", inPlace := ["internal/bytealg.IndexByteString", "internal/bytealg.IndexString", "internal/bytealg.CountString"], named := ["internal/bytealg.MaxLen", "unicode/utf8.first", "unicode/utf8.acceptRanges"], apart := false, laid := [("unicode/utf8.acceptRanges", laid_unicode_utf8_acceptRanges), ("unicode/utf8.first", laid_unicode_utf8_first)], narrowed := true }
def RulesActsUptoSaid : Prop := rulesActsUptoRow.holds Tryd.pinned (OpenSpec.upto rulesActsSpec)

/-- 'remoralaw15.RulesIdle', WHERE WHAT IT READS IS OF BULK AT MOST 1048576: true; the input reads as it did. -/
def rulesIdleUptoRow : OpenClaim := { program := "ytioehkeocddniaadoor", sum := "bbc81652df195d1844e722edd0a09c22911c7e764ef5dc2142686e1adfe9835b", func := "remora/remoralaw15.RulesIdle", spec := "rulesIdle", inPlace := ["internal/bytealg.IndexByteString", "internal/bytealg.IndexString", "internal/bytealg.CountString"], named := ["internal/bytealg.MaxLen", "unicode/utf8.first", "unicode/utf8.acceptRanges"], apart := false, laid := [("unicode/utf8.acceptRanges", laid_unicode_utf8_acceptRanges), ("unicode/utf8.first", laid_unicode_utf8_first)], narrowed := true }
def RulesIdleUptoSaid : Prop := rulesIdleUptoRow.holds Tryd.pinned (OpenSpec.upto rulesIdleSpec)

/-- 'remoralaw15.RulesParts', WHERE WHAT IT READS IS OF BULK AT MOST 1048576: true; the input reads as it did. -/
def rulesPartsUptoRow : OpenClaim := { program := "ytioehkeocddniaadoor", sum := "bbc81652df195d1844e722edd0a09c22911c7e764ef5dc2142686e1adfe9835b", func := "remora/remoralaw15.RulesParts", spec := "rulesParts", inPlace := ["internal/bytealg.IndexByteString", "internal/bytealg.IndexString", "internal/bytealg.CountString"], named := ["internal/bytealg.MaxLen", "unicode/utf8.first", "unicode/utf8.acceptRanges"], apart := false, laid := [("unicode/utf8.acceptRanges", laid_unicode_utf8_acceptRanges), ("unicode/utf8.first", laid_unicode_utf8_first)], narrowed := true }
def RulesPartsUptoSaid : Prop := rulesPartsUptoRow.holds Tryd.pinned (OpenSpec.upto rulesPartsSpec)

/-- 'remoralaw15.RulesMays', WHERE WHAT IT READS IS OF BULK AT MOST 1048576: true; the input reads as it did. -/
def rulesMaysUptoRow : OpenClaim := { program := "ytioehkeocddniaadoor", sum := "bbc81652df195d1844e722edd0a09c22911c7e764ef5dc2142686e1adfe9835b", func := "remora/remoralaw15.RulesMays", spec := "rulesMays", inPlace := ["internal/bytealg.IndexByteString", "internal/bytealg.IndexString", "internal/bytealg.CountString"], named := ["internal/bytealg.MaxLen", "unicode/utf8.first", "unicode/utf8.acceptRanges"], apart := false, laid := [("unicode/utf8.acceptRanges", laid_unicode_utf8_acceptRanges), ("unicode/utf8.first", laid_unicode_utf8_first)], narrowed := true }
def RulesMaysUptoSaid : Prop := rulesMaysUptoRow.holds Tryd.pinned (OpenSpec.upto rulesMaysSpec)

/-- 'remoralaw15.RulesBack', WHERE WHAT IT READS IS OF BULK AT MOST 1048576: true; the input reads as it did. -/
def rulesBackUptoRow : OpenClaim := { program := "ytioehkeocddniaadoor", sum := "bbc81652df195d1844e722edd0a09c22911c7e764ef5dc2142686e1adfe9835b", func := "remora/remoralaw15.RulesBack", spec := "rulesBack", inPlace := ["internal/bytealg.IndexByteString", "internal/bytealg.IndexString", "internal/bytealg.CountString"], named := ["internal/bytealg.MaxLen", "unicode/utf8.first", "unicode/utf8.acceptRanges"], apart := false, laid := [("unicode/utf8.acceptRanges", laid_unicode_utf8_acceptRanges), ("unicode/utf8.first", laid_unicode_utf8_first)], narrowed := true }
def RulesBackUptoSaid : Prop := rulesBackUptoRow.holds Tryd.pinned (OpenSpec.upto rulesBackSpec)

/-- 'remoralaw15.RulesBelow', WHERE WHAT IT READS IS OF BULK AT MOST 1048576: true; the input reads as it did. -/
def rulesBelowUptoRow : OpenClaim := { program := "ytioehkeocddniaadoor", sum := "bbc81652df195d1844e722edd0a09c22911c7e764ef5dc2142686e1adfe9835b", func := "remora/remoralaw15.RulesBelow", spec := "rulesBelow", inPlace := ["internal/bytealg.IndexByteString", "internal/bytealg.IndexString", "internal/bytealg.CountString", "internal/abi.NoEscape", "internal/bytealg.MakeNoZero"], named := ["internal/bytealg.MaxLen", "unicode/utf8.first", "unicode/utf8.acceptRanges"], apart := false, laid := [("unicode/utf8.acceptRanges", laid_unicode_utf8_acceptRanges), ("unicode/utf8.first", laid_unicode_utf8_first)], narrowed := true }
def RulesBelowUptoSaid : Prop := rulesBelowUptoRow.holds Tryd.pinned (OpenSpec.upto rulesBelowSpec)

end Rows
end Go.Proofs.YtioehkeocddniaaDoor
