/-
  DERIVED. GIVEN WITH THE SEED: THE CARDS: each row of YtcdmgdegohcmhaaDoorRows.lean that lists a variable, with what it lists TIED to the program's text (the seventh form; the later family's looks); each row that meets fmt, with fmt's text TOLD by the authors' own Lean function (tested against real Go, not proved from fmt's source: count such statements apart). THE CARD IS WHAT COUNTS. Prove the row's statement (the work); the ties are given (YtcdmgdegohcmhaaDoorTie.lean); close each card by the builder's one call (the guide's Derived/Test/ToyasCard.lean, 'card_holds'). Laid BY PROGRAM, IN A SANDBOX (cutbox-door.mjs). By AI agents, Wed Nov 11 2026. No macro, syntax, notation, axiom, sorry.
-/
import Derived.Test.YtcdmgdegohcmhaaDoorRows
import GoSem.ClaimSeven
namespace Go.Proofs.YtcdmgdegohcmhaaDoor
namespace Rows

/-- THE TIED CARD OF 'remoralaw20.FlistChecks'. -/
def flistChecksCard : Claim7 := { stood := { row := flistChecksRow, standIns := [], harness := (true, "24a36595ca9691ff0413bd8ebcd5a2debb5ebfc4245c760bc93e91b01e70bbec"), looks := false }, kinds := [], alts := [], laidByText := true, laidKinds := [.data], laidTests := true, laidLooks := .later }
def FlistChecksCardSaid : Prop := Claim7.holds Tryd.pinned (.plain (OpenSpec.ofChange flistChecksSpec)) flistChecksCard

/-- THE TIED CARD OF 'remoralaw20.FlistBytes'. -/
def flistBytesCard : Claim7 := { stood := { row := flistBytesRow, standIns := [], harness := (true, "24a36595ca9691ff0413bd8ebcd5a2debb5ebfc4245c760bc93e91b01e70bbec"), looks := false }, kinds := [], alts := [], laidByText := true, laidKinds := [.data], laidTests := true, laidLooks := .later }
def FlistBytesCardSaid : Prop := Claim7.holds Tryd.pinned (.plain (OpenSpec.ofChange flistBytesSpec)) flistBytesCard

/-- THE TIED CARD OF 'remoralaw20.FlistPlaces'. -/
def flistPlacesCard : Claim7 := { stood := { row := flistPlacesRow, standIns := [], harness := (true, "24a36595ca9691ff0413bd8ebcd5a2debb5ebfc4245c760bc93e91b01e70bbec"), looks := false }, kinds := [], alts := [], laidByText := true, laidKinds := [.data], laidTests := true, laidLooks := .later }
def FlistPlacesCardSaid : Prop := Claim7.holds Tryd.pinned (.plain (OpenSpec.ofChange flistPlacesSpec)) flistPlacesCard

/-- THE TIED CARD OF 'remoralaw20.FlistReads'. -/
def flistReadsCard : Claim7 := { stood := { row := flistReadsRow, standIns := [], harness := (true, "24a36595ca9691ff0413bd8ebcd5a2debb5ebfc4245c760bc93e91b01e70bbec"), looks := false }, kinds := [], alts := [], laidByText := true, laidKinds := [.data], laidTests := true, laidLooks := .later }
def FlistReadsCardSaid : Prop := Claim7.holds Tryd.pinned (.plain (OpenSpec.ofChange flistReadsSpec)) flistReadsCard

/-- THE TIED CARD OF 'remoralaw20.FlistBack'. -/
def flistBackCard : Claim7 := { stood := { row := flistBackRow, standIns := [], harness := (true, "24a36595ca9691ff0413bd8ebcd5a2debb5ebfc4245c760bc93e91b01e70bbec"), looks := false }, kinds := [], alts := [], laidByText := true, laidKinds := [.data], laidTests := true, laidLooks := .later }
def FlistBackCardSaid : Prop := Claim7.holds Tryd.pinned (.plain (OpenSpec.ofChange flistBackSpec)) flistBackCard

/-- THE TIED CARD OF 'remoralaw20.FlistSorts'. -/
def flistSortsCard : Claim7 := { stood := { row := flistSortsRow, standIns := [], harness := (true, "24a36595ca9691ff0413bd8ebcd5a2debb5ebfc4245c760bc93e91b01e70bbec"), looks := false }, kinds := [], alts := [], laidByText := true, laidKinds := [.data], laidTests := true, laidLooks := .later }
def FlistSortsCardSaid : Prop := Claim7.holds Tryd.pinned (.plain (OpenSpec.ofChange flistSortsSpec)) flistSortsCard

/-- THE TIED CARD OF 'remoralaw20.FlistFinds'. -/
def flistFindsCard : Claim7 := { stood := { row := flistFindsRow, standIns := [], harness := (true, "24a36595ca9691ff0413bd8ebcd5a2debb5ebfc4245c760bc93e91b01e70bbec"), looks := false }, kinds := [], alts := [], laidByText := true, laidKinds := [.data], laidTests := true, laidLooks := .later }
def FlistFindsCardSaid : Prop := Claim7.holds Tryd.pinned (.plain (OpenSpec.ofChange flistFindsSpec)) flistFindsCard

/-- THE SECOND FORM's CARD OF 'remoralaw20.FlistChecks'. -/
def flistChecksUptoCard : Claim7 := { stood := { row := flistChecksUptoRow, standIns := [], harness := (true, "24a36595ca9691ff0413bd8ebcd5a2debb5ebfc4245c760bc93e91b01e70bbec"), looks := false }, kinds := [], alts := [], laidByText := true, laidKinds := [.data], laidTests := true, laidLooks := .later }
def FlistChecksUptoCardSaid : Prop := Claim7.holds Tryd.pinned (.plain (OpenSpec.upto flistChecksSpec)) flistChecksUptoCard

/-- THE SECOND FORM's CARD OF 'remoralaw20.FlistBytes'. -/
def flistBytesUptoCard : Claim7 := { stood := { row := flistBytesUptoRow, standIns := [], harness := (true, "24a36595ca9691ff0413bd8ebcd5a2debb5ebfc4245c760bc93e91b01e70bbec"), looks := false }, kinds := [], alts := [], laidByText := true, laidKinds := [.data], laidTests := true, laidLooks := .later }
def FlistBytesUptoCardSaid : Prop := Claim7.holds Tryd.pinned (.plain (OpenSpec.upto flistBytesSpec)) flistBytesUptoCard

/-- THE SECOND FORM's CARD OF 'remoralaw20.FlistPlaces'. -/
def flistPlacesUptoCard : Claim7 := { stood := { row := flistPlacesUptoRow, standIns := [], harness := (true, "24a36595ca9691ff0413bd8ebcd5a2debb5ebfc4245c760bc93e91b01e70bbec"), looks := false }, kinds := [], alts := [], laidByText := true, laidKinds := [.data], laidTests := true, laidLooks := .later }
def FlistPlacesUptoCardSaid : Prop := Claim7.holds Tryd.pinned (.plain (OpenSpec.upto flistPlacesSpec)) flistPlacesUptoCard

/-- THE SECOND FORM's CARD OF 'remoralaw20.FlistReads'. -/
def flistReadsUptoCard : Claim7 := { stood := { row := flistReadsUptoRow, standIns := [], harness := (true, "24a36595ca9691ff0413bd8ebcd5a2debb5ebfc4245c760bc93e91b01e70bbec"), looks := false }, kinds := [], alts := [], laidByText := true, laidKinds := [.data], laidTests := true, laidLooks := .later }
def FlistReadsUptoCardSaid : Prop := Claim7.holds Tryd.pinned (.plain (OpenSpec.upto flistReadsSpec)) flistReadsUptoCard

/-- THE SECOND FORM's CARD OF 'remoralaw20.FlistBack'. -/
def flistBackUptoCard : Claim7 := { stood := { row := flistBackUptoRow, standIns := [], harness := (true, "24a36595ca9691ff0413bd8ebcd5a2debb5ebfc4245c760bc93e91b01e70bbec"), looks := false }, kinds := [], alts := [], laidByText := true, laidKinds := [.data], laidTests := true, laidLooks := .later }
def FlistBackUptoCardSaid : Prop := Claim7.holds Tryd.pinned (.plain (OpenSpec.upto flistBackSpec)) flistBackUptoCard

/-- THE SECOND FORM's CARD OF 'remoralaw20.FlistSorts'. -/
def flistSortsUptoCard : Claim7 := { stood := { row := flistSortsUptoRow, standIns := [], harness := (true, "24a36595ca9691ff0413bd8ebcd5a2debb5ebfc4245c760bc93e91b01e70bbec"), looks := false }, kinds := [], alts := [], laidByText := true, laidKinds := [.data], laidTests := true, laidLooks := .later }
def FlistSortsUptoCardSaid : Prop := Claim7.holds Tryd.pinned (.plain (OpenSpec.upto flistSortsSpec)) flistSortsUptoCard

/-- THE SECOND FORM's CARD OF 'remoralaw20.FlistFinds'. -/
def flistFindsUptoCard : Claim7 := { stood := { row := flistFindsUptoRow, standIns := [], harness := (true, "24a36595ca9691ff0413bd8ebcd5a2debb5ebfc4245c760bc93e91b01e70bbec"), looks := false }, kinds := [], alts := [], laidByText := true, laidKinds := [.data], laidTests := true, laidLooks := .later }
def FlistFindsUptoCardSaid : Prop := Claim7.holds Tryd.pinned (.plain (OpenSpec.upto flistFindsSpec)) flistFindsUptoCard
end Rows
end Go.Proofs.YtcdmgdegohcmhaaDoor
