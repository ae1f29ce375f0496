/-
  DERIVED. GIVEN WITH THE SEED: THE CARDS: each row of YtjjcepnadjociaaDoorRows.lean that lists a variable, with what it lists TIED to the program's text (the seventh form; the later family's looks); each row that meets fmt, with fmt's text TOLD by the authors' own Lean function (tested against real Go, not proved from fmt's source: count such statements apart). THE CARD IS WHAT COUNTS. Prove the row's statement (the work); the ties are given (YtjjcepnadjociaaDoorTie.lean); close each card by the builder's one call (the guide's Derived/Test/ToyasCard.lean, 'card_holds'). Laid BY PROGRAM, IN A SANDBOX (cutbox-door.mjs). By AI agents, Wed Nov 11 2026. No macro, syntax, notation, axiom, sorry.
-/
import Derived.Test.YtjjcepnadjociaaDoorRows
import GoSem.ClaimSeven
namespace Go.Proofs.YtjjcepnadjociaaDoor
namespace Rows

/-- THE TIED CARD OF 'laws.FnFieldsAll'. -/
def fnFieldsAllCard : Claim7 := { stood := { row := fnFieldsAllRow, standIns := [], harness := (true, "9be5c0d80784b63c5584c22302b217e9ad7ab2f641041c16e4ffd870c55871c5"), looks := false }, kinds := [], alts := [], laidByText := true, laidKinds := [.data], laidTests := true, laidLooks := .later }
def FnFieldsAllCardSaid : Prop := Claim7.holds Tryd.pinned (.plain (OpenSpec.ofChange fnFieldsAllSpec)) fnFieldsAllCard

/-- THE TIED CARD OF 'laws.FnExactLayoutBits'. -/
def fnExactLayoutBitsCard : Claim7 := { stood := { row := fnExactLayoutBitsRow, standIns := [], harness := (true, "9be5c0d80784b63c5584c22302b217e9ad7ab2f641041c16e4ffd870c55871c5"), looks := false }, kinds := [], alts := [], laidByText := true, laidKinds := [.data], laidTests := true, laidLooks := .later }
def FnExactLayoutBitsCardSaid : Prop := Claim7.holds Tryd.pinned (.plain (OpenSpec.ofChange fnExactLayoutBitsSpec)) fnExactLayoutBitsCard

/-- THE TIED CARD OF 'laws.FnLayoutGrows'. -/
def fnLayoutGrowsCard : Claim7 := { stood := { row := fnLayoutGrowsRow, standIns := [], harness := (true, "9be5c0d80784b63c5584c22302b217e9ad7ab2f641041c16e4ffd870c55871c5"), looks := false }, kinds := [], alts := [], laidByText := true, laidKinds := [.data], laidTests := true, laidLooks := .later }
def FnLayoutGrowsCardSaid : Prop := Claim7.holds Tryd.pinned (.plain (OpenSpec.ofChange fnLayoutGrowsSpec)) fnLayoutGrowsCard

/-- THE TIED CARD OF 'laws.FnLayoutWaste'. -/
def fnLayoutWasteCard : Claim7 := { stood := { row := fnLayoutWasteRow, standIns := [], harness := (true, "9be5c0d80784b63c5584c22302b217e9ad7ab2f641041c16e4ffd870c55871c5"), looks := false }, kinds := [], alts := [], laidByText := true, laidKinds := [.data], laidTests := true, laidLooks := .later }
def FnLayoutWasteCardSaid : Prop := Claim7.holds Tryd.pinned (.plain (OpenSpec.ofChange fnLayoutWasteSpec)) fnLayoutWasteCard

/-- THE TIED CARD OF 'laws.FnLayoutBits'. -/
def fnLayoutBitsCard : Claim7 := { stood := { row := fnLayoutBitsRow, standIns := [], harness := (true, "9be5c0d80784b63c5584c22302b217e9ad7ab2f641041c16e4ffd870c55871c5"), looks := false }, kinds := [], alts := [], laidByText := true, laidKinds := [.data], laidTests := true, laidLooks := .later }
def FnLayoutBitsCardSaid : Prop := Claim7.holds Tryd.pinned (.plain (OpenSpec.ofChange fnLayoutBitsSpec)) fnLayoutBitsCard

/-- THE TIED CARD OF 'laws.FnLayoutChoices'. -/
def fnLayoutChoicesCard : Claim7 := { stood := { row := fnLayoutChoicesRow, standIns := [], harness := (true, "9be5c0d80784b63c5584c22302b217e9ad7ab2f641041c16e4ffd870c55871c5"), looks := false }, kinds := [], alts := [], laidByText := true, laidKinds := [.data], laidTests := true, laidLooks := .later }
def FnLayoutChoicesCardSaid : Prop := Claim7.holds Tryd.pinned (.plain (OpenSpec.ofChange fnLayoutChoicesSpec)) fnLayoutChoicesCard

/-- THE TIED CARD OF 'laws.FnLayoutOf'. -/
def fnLayoutOfCard : Claim7 := { stood := { row := fnLayoutOfRow, standIns := [], harness := (true, "9be5c0d80784b63c5584c22302b217e9ad7ab2f641041c16e4ffd870c55871c5"), looks := false }, kinds := [], alts := [], laidByText := true, laidKinds := [.data], laidTests := true, laidLooks := .later }
def FnLayoutOfCardSaid : Prop := Claim7.holds Tryd.pinned (.plain (OpenSpec.ofChange fnLayoutOfSpec)) fnLayoutOfCard

/-- THE TIED CARD OF 'laws.FnExactLayoutOf'. -/
def fnExactLayoutOfCard : Claim7 := { stood := { row := fnExactLayoutOfRow, standIns := [], harness := (true, "9be5c0d80784b63c5584c22302b217e9ad7ab2f641041c16e4ffd870c55871c5"), looks := false }, kinds := [], alts := [], laidByText := true, laidKinds := [.data], laidTests := true, laidLooks := .later }
def FnExactLayoutOfCardSaid : Prop := Claim7.holds Tryd.pinned (.plain (OpenSpec.ofChange fnExactLayoutOfSpec)) fnExactLayoutOfCard

/-- THE SECOND FORM's CARD OF 'laws.FnFieldsAll'. -/
def fnFieldsAllUptoCard : Claim7 := { stood := { row := fnFieldsAllUptoRow, standIns := [], harness := (true, "9be5c0d80784b63c5584c22302b217e9ad7ab2f641041c16e4ffd870c55871c5"), looks := false }, kinds := [], alts := [], laidByText := true, laidKinds := [.data], laidTests := true, laidLooks := .later }
def FnFieldsAllUptoCardSaid : Prop := Claim7.holds Tryd.pinned (.plain (OpenSpec.upto fnFieldsAllSpec)) fnFieldsAllUptoCard

/-- THE SECOND FORM's CARD OF 'laws.FnExactLayoutBits'. -/
def fnExactLayoutBitsUptoCard : Claim7 := { stood := { row := fnExactLayoutBitsUptoRow, standIns := [], harness := (true, "9be5c0d80784b63c5584c22302b217e9ad7ab2f641041c16e4ffd870c55871c5"), looks := false }, kinds := [], alts := [], laidByText := true, laidKinds := [.data], laidTests := true, laidLooks := .later }
def FnExactLayoutBitsUptoCardSaid : Prop := Claim7.holds Tryd.pinned (.plain (OpenSpec.upto fnExactLayoutBitsSpec)) fnExactLayoutBitsUptoCard

/-- THE SECOND FORM's CARD OF 'laws.FnLayoutGrows'. -/
def fnLayoutGrowsUptoCard : Claim7 := { stood := { row := fnLayoutGrowsUptoRow, standIns := [], harness := (true, "9be5c0d80784b63c5584c22302b217e9ad7ab2f641041c16e4ffd870c55871c5"), looks := false }, kinds := [], alts := [], laidByText := true, laidKinds := [.data], laidTests := true, laidLooks := .later }
def FnLayoutGrowsUptoCardSaid : Prop := Claim7.holds Tryd.pinned (.plain (OpenSpec.upto fnLayoutGrowsSpec)) fnLayoutGrowsUptoCard

/-- THE SECOND FORM's CARD OF 'laws.FnLayoutWaste'. -/
def fnLayoutWasteUptoCard : Claim7 := { stood := { row := fnLayoutWasteUptoRow, standIns := [], harness := (true, "9be5c0d80784b63c5584c22302b217e9ad7ab2f641041c16e4ffd870c55871c5"), looks := false }, kinds := [], alts := [], laidByText := true, laidKinds := [.data], laidTests := true, laidLooks := .later }
def FnLayoutWasteUptoCardSaid : Prop := Claim7.holds Tryd.pinned (.plain (OpenSpec.upto fnLayoutWasteSpec)) fnLayoutWasteUptoCard

/-- THE SECOND FORM's CARD OF 'laws.FnLayoutBits'. -/
def fnLayoutBitsUptoCard : Claim7 := { stood := { row := fnLayoutBitsUptoRow, standIns := [], harness := (true, "9be5c0d80784b63c5584c22302b217e9ad7ab2f641041c16e4ffd870c55871c5"), looks := false }, kinds := [], alts := [], laidByText := true, laidKinds := [.data], laidTests := true, laidLooks := .later }
def FnLayoutBitsUptoCardSaid : Prop := Claim7.holds Tryd.pinned (.plain (OpenSpec.upto fnLayoutBitsSpec)) fnLayoutBitsUptoCard

/-- THE SECOND FORM's CARD OF 'laws.FnLayoutChoices'. -/
def fnLayoutChoicesUptoCard : Claim7 := { stood := { row := fnLayoutChoicesUptoRow, standIns := [], harness := (true, "9be5c0d80784b63c5584c22302b217e9ad7ab2f641041c16e4ffd870c55871c5"), looks := false }, kinds := [], alts := [], laidByText := true, laidKinds := [.data], laidTests := true, laidLooks := .later }
def FnLayoutChoicesUptoCardSaid : Prop := Claim7.holds Tryd.pinned (.plain (OpenSpec.upto fnLayoutChoicesSpec)) fnLayoutChoicesUptoCard

/-- THE SECOND FORM's CARD OF 'laws.FnLayoutOf'. -/
def fnLayoutOfUptoCard : Claim7 := { stood := { row := fnLayoutOfUptoRow, standIns := [], harness := (true, "9be5c0d80784b63c5584c22302b217e9ad7ab2f641041c16e4ffd870c55871c5"), looks := false }, kinds := [], alts := [], laidByText := true, laidKinds := [.data], laidTests := true, laidLooks := .later }
def FnLayoutOfUptoCardSaid : Prop := Claim7.holds Tryd.pinned (.plain (OpenSpec.upto fnLayoutOfSpec)) fnLayoutOfUptoCard

/-- THE SECOND FORM's CARD OF 'laws.FnExactLayoutOf'. -/
def fnExactLayoutOfUptoCard : Claim7 := { stood := { row := fnExactLayoutOfUptoRow, standIns := [], harness := (true, "9be5c0d80784b63c5584c22302b217e9ad7ab2f641041c16e4ffd870c55871c5"), looks := false }, kinds := [], alts := [], laidByText := true, laidKinds := [.data], laidTests := true, laidLooks := .later }
def FnExactLayoutOfUptoCardSaid : Prop := Claim7.holds Tryd.pinned (.plain (OpenSpec.upto fnExactLayoutOfSpec)) fnExactLayoutOfUptoCard
end Rows
end Go.Proofs.YtjjcepnadjociaaDoor
