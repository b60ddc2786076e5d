/-
  DERIVED. GIVEN WITH THE SEED: THE CARDS: each row of YtioehkeocddniaaDoorRows.lean that lists a variable, with what it lists TIED to the program's text (the seventh form; the later family's looks); each row that meets fmt, with fmt's text TOLD by the authors' own Lean function (tested against real Go, not proved from fmt's source: count such statements apart). THE CARD IS WHAT COUNTS. Prove the row's statement (the work); the ties are given (YtioehkeocddniaaDoorTie.lean); close each card by the builder's one call (the guide's Derived/Test/ToyasCard.lean, 'card_holds'). Laid BY PROGRAM, IN A SANDBOX (cutbox-door.mjs). By AI agents, Wed Nov 11 2026. No macro, syntax, notation, axiom, sorry.
-/
import Derived.Test.YtioehkeocddniaaDoorRows
import GoSem.ClaimSeven
namespace Go.Proofs.YtioehkeocddniaaDoor
namespace Rows

/-- THE TIED CARD OF 'remoralaw15.RulesParses'. -/
def rulesParsesCard : Claim7 := { stood := { row := rulesParsesRow, standIns := [], harness := (true, "80aef6e15c2e7068213dd79d426cd5d1c4348608c4c567f3cf068b74e7af21d6"), looks := false }, kinds := [], alts := [], laidByText := true, laidKinds := [.data, .pinned], laidTests := true, laidLooks := .later }
def RulesParsesCardSaid : Prop := Claim7.holds Tryd.pinned (.plain (OpenSpec.ofChange rulesParsesSpec)) rulesParsesCard

/-- THE TIED CARD OF 'remoralaw15.RulesActs'. -/
def rulesActsCard : Claim7 := { stood := { row := rulesActsRow, standIns := [], harness := (true, "80aef6e15c2e7068213dd79d426cd5d1c4348608c4c567f3cf068b74e7af21d6"), looks := false }, kinds := [], alts := [], laidByText := true, laidKinds := [.data, .pinned], laidTests := true, laidLooks := .later }
def RulesActsCardSaid : Prop := Claim7.holds Tryd.pinned (.plain (OpenSpec.ofChange rulesActsSpec)) rulesActsCard

/-- THE TIED CARD OF 'remoralaw15.RulesIdle'. -/
def rulesIdleCard : Claim7 := { stood := { row := rulesIdleRow, standIns := [], harness := (true, "80aef6e15c2e7068213dd79d426cd5d1c4348608c4c567f3cf068b74e7af21d6"), looks := false }, kinds := [], alts := [], laidByText := true, laidKinds := [.data, .pinned], laidTests := true, laidLooks := .later }
def RulesIdleCardSaid : Prop := Claim7.holds Tryd.pinned (.plain (OpenSpec.ofChange rulesIdleSpec)) rulesIdleCard

/-- THE TIED CARD OF 'remoralaw15.RulesParts'. -/
def rulesPartsCard : Claim7 := { stood := { row := rulesPartsRow, standIns := [], harness := (true, "80aef6e15c2e7068213dd79d426cd5d1c4348608c4c567f3cf068b74e7af21d6"), looks := false }, kinds := [], alts := [], laidByText := true, laidKinds := [.data, .pinned], laidTests := true, laidLooks := .later }
def RulesPartsCardSaid : Prop := Claim7.holds Tryd.pinned (.plain (OpenSpec.ofChange rulesPartsSpec)) rulesPartsCard

/-- THE TIED CARD OF 'remoralaw15.RulesMays'. -/
def rulesMaysCard : Claim7 := { stood := { row := rulesMaysRow, standIns := [], harness := (true, "80aef6e15c2e7068213dd79d426cd5d1c4348608c4c567f3cf068b74e7af21d6"), looks := false }, kinds := [], alts := [], laidByText := true, laidKinds := [.data, .pinned], laidTests := true, laidLooks := .later }
def RulesMaysCardSaid : Prop := Claim7.holds Tryd.pinned (.plain (OpenSpec.ofChange rulesMaysSpec)) rulesMaysCard

/-- THE TIED CARD OF 'remoralaw15.RulesBack'. -/
def rulesBackCard : Claim7 := { stood := { row := rulesBackRow, standIns := [], harness := (true, "80aef6e15c2e7068213dd79d426cd5d1c4348608c4c567f3cf068b74e7af21d6"), looks := false }, kinds := [], alts := [], laidByText := true, laidKinds := [.data, .pinned], laidTests := true, laidLooks := .later }
def RulesBackCardSaid : Prop := Claim7.holds Tryd.pinned (.plain (OpenSpec.ofChange rulesBackSpec)) rulesBackCard

/-- THE TIED CARD OF 'remoralaw15.RulesBelow'. -/
def rulesBelowCard : Claim7 := { stood := { row := rulesBelowRow, standIns := [], harness := (true, "80aef6e15c2e7068213dd79d426cd5d1c4348608c4c567f3cf068b74e7af21d6"), looks := false }, kinds := [], alts := [], laidByText := true, laidKinds := [.data, .pinned], laidTests := true, laidLooks := .later }
def RulesBelowCardSaid : Prop := Claim7.holds Tryd.pinned (.plain (OpenSpec.ofChange rulesBelowSpec)) rulesBelowCard

/-- THE SECOND FORM's CARD OF 'remoralaw15.RulesParses'. -/
def rulesParsesUptoCard : Claim7 := { stood := { row := rulesParsesUptoRow, standIns := [], harness := (true, "80aef6e15c2e7068213dd79d426cd5d1c4348608c4c567f3cf068b74e7af21d6"), looks := false }, kinds := [], alts := [], laidByText := true, laidKinds := [.data, .pinned], laidTests := true, laidLooks := .later }
def RulesParsesUptoCardSaid : Prop := Claim7.holds Tryd.pinned (.plain (OpenSpec.upto rulesParsesSpec)) rulesParsesUptoCard

/-- THE SECOND FORM's CARD OF 'remoralaw15.RulesActs'. -/
def rulesActsUptoCard : Claim7 := { stood := { row := rulesActsUptoRow, standIns := [], harness := (true, "80aef6e15c2e7068213dd79d426cd5d1c4348608c4c567f3cf068b74e7af21d6"), looks := false }, kinds := [], alts := [], laidByText := true, laidKinds := [.data, .pinned], laidTests := true, laidLooks := .later }
def RulesActsUptoCardSaid : Prop := Claim7.holds Tryd.pinned (.plain (OpenSpec.upto rulesActsSpec)) rulesActsUptoCard

/-- THE SECOND FORM's CARD OF 'remoralaw15.RulesIdle'. -/
def rulesIdleUptoCard : Claim7 := { stood := { row := rulesIdleUptoRow, standIns := [], harness := (true, "80aef6e15c2e7068213dd79d426cd5d1c4348608c4c567f3cf068b74e7af21d6"), looks := false }, kinds := [], alts := [], laidByText := true, laidKinds := [.data, .pinned], laidTests := true, laidLooks := .later }
def RulesIdleUptoCardSaid : Prop := Claim7.holds Tryd.pinned (.plain (OpenSpec.upto rulesIdleSpec)) rulesIdleUptoCard

/-- THE SECOND FORM's CARD OF 'remoralaw15.RulesParts'. -/
def rulesPartsUptoCard : Claim7 := { stood := { row := rulesPartsUptoRow, standIns := [], harness := (true, "80aef6e15c2e7068213dd79d426cd5d1c4348608c4c567f3cf068b74e7af21d6"), looks := false }, kinds := [], alts := [], laidByText := true, laidKinds := [.data, .pinned], laidTests := true, laidLooks := .later }
def RulesPartsUptoCardSaid : Prop := Claim7.holds Tryd.pinned (.plain (OpenSpec.upto rulesPartsSpec)) rulesPartsUptoCard

/-- THE SECOND FORM's CARD OF 'remoralaw15.RulesMays'. -/
def rulesMaysUptoCard : Claim7 := { stood := { row := rulesMaysUptoRow, standIns := [], harness := (true, "80aef6e15c2e7068213dd79d426cd5d1c4348608c4c567f3cf068b74e7af21d6"), looks := false }, kinds := [], alts := [], laidByText := true, laidKinds := [.data, .pinned], laidTests := true, laidLooks := .later }
def RulesMaysUptoCardSaid : Prop := Claim7.holds Tryd.pinned (.plain (OpenSpec.upto rulesMaysSpec)) rulesMaysUptoCard

/-- THE SECOND FORM's CARD OF 'remoralaw15.RulesBack'. -/
def rulesBackUptoCard : Claim7 := { stood := { row := rulesBackUptoRow, standIns := [], harness := (true, "80aef6e15c2e7068213dd79d426cd5d1c4348608c4c567f3cf068b74e7af21d6"), looks := false }, kinds := [], alts := [], laidByText := true, laidKinds := [.data, .pinned], laidTests := true, laidLooks := .later }
def RulesBackUptoCardSaid : Prop := Claim7.holds Tryd.pinned (.plain (OpenSpec.upto rulesBackSpec)) rulesBackUptoCard

/-- THE SECOND FORM's CARD OF 'remoralaw15.RulesBelow'. -/
def rulesBelowUptoCard : Claim7 := { stood := { row := rulesBelowUptoRow, standIns := [], harness := (true, "80aef6e15c2e7068213dd79d426cd5d1c4348608c4c567f3cf068b74e7af21d6"), looks := false }, kinds := [], alts := [], laidByText := true, laidKinds := [.data, .pinned], laidTests := true, laidLooks := .later }
def RulesBelowUptoCardSaid : Prop := Claim7.holds Tryd.pinned (.plain (OpenSpec.upto rulesBelowSpec)) rulesBelowUptoCard
end Rows
end Go.Proofs.YtioehkeocddniaaDoor
