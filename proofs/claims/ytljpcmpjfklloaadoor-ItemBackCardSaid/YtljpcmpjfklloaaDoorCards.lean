/-
  DERIVED. GIVEN WITH THE SEED: THE CARDS: each row of YtljpcmpjfklloaaDoorRows.lean that lists a variable, with what it lists TIED to the program's text (the seventh form; the later family's looks); each row that meets fmt, with fmt's text TOLD by the authors' own Lean function (tested against real Go, not proved from fmt's source: count such statements apart). THE CARD IS WHAT COUNTS. Prove the row's statement (the work); the ties are given (YtljpcmpjfklloaaDoorTie.lean); close each card by the builder's one call (the guide's Derived/Test/ToyasCard.lean, 'card_holds'). Laid BY PROGRAM, IN A SANDBOX (cutbox-door.mjs). By AI agents, Wed Nov 11 2026. No macro, syntax, notation, axiom, sorry.
-/
import Derived.Test.YtljpcmpjfklloaaDoorRows
import GoSem.ClaimSeven
namespace Go.Proofs.YtljpcmpjfklloaaDoor
namespace Rows

/-- THE TIED CARD OF 'remoralaw28.ItemParses'. -/
def itemParsesCard : Claim7 := { stood := { row := itemParsesRow, standIns := [], harness := (true, "c2469237fa0b6f6574e7709386665002f093d6ad8ab467faf38e18a18c871db1"), looks := false }, kinds := [], alts := [], laidByText := true, laidKinds := [.data, .pinned], laidTests := true, laidLooks := .later }
def ItemParsesCardSaid : Prop := Claim7.holds Tryd.pinned (.plain (OpenSpec.ofChange itemParsesSpec)) itemParsesCard

/-- THE TIED CARD OF 'remoralaw28.ItemBack'. -/
def itemBackCard : Claim7 := { stood := { row := itemBackRow, standIns := [], harness := (true, "c2469237fa0b6f6574e7709386665002f093d6ad8ab467faf38e18a18c871db1"), looks := false }, kinds := [], alts := [], laidByText := true, laidKinds := [.data, .pinned], laidTests := true, laidLooks := .later }
def ItemBackCardSaid : Prop := Claim7.holds Tryd.pinned (.plain (OpenSpec.ofChange itemBackSpec)) itemBackCard

/-- THE SECOND FORM's CARD OF 'remoralaw28.ItemParses'. -/
def itemParsesUptoCard : Claim7 := { stood := { row := itemParsesUptoRow, standIns := [], harness := (true, "c2469237fa0b6f6574e7709386665002f093d6ad8ab467faf38e18a18c871db1"), looks := false }, kinds := [], alts := [], laidByText := true, laidKinds := [.data, .pinned], laidTests := true, laidLooks := .later }
def ItemParsesUptoCardSaid : Prop := Claim7.holds Tryd.pinned (.plain (OpenSpec.upto itemParsesSpec)) itemParsesUptoCard

/-- THE SECOND FORM's CARD OF 'remoralaw28.ItemBack'. -/
def itemBackUptoCard : Claim7 := { stood := { row := itemBackUptoRow, standIns := [], harness := (true, "c2469237fa0b6f6574e7709386665002f093d6ad8ab467faf38e18a18c871db1"), looks := false }, kinds := [], alts := [], laidByText := true, laidKinds := [.data, .pinned], laidTests := true, laidLooks := .later }
def ItemBackUptoCardSaid : Prop := Claim7.holds Tryd.pinned (.plain (OpenSpec.upto itemBackSpec)) itemBackUptoCard
end Rows
end Go.Proofs.YtljpcmpjfklloaaDoor
