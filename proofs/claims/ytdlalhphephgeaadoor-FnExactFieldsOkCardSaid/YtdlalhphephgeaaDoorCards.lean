/-
  DERIVED. GIVEN WITH THE SEED: THE CARDS: each row of YtdlalhphephgeaaDoorRows.lean that lists a variable, with what it lists TIED to the program's text (the seventh form; the later family's looks); each row that meets fmt, with fmt's text TOLD by the authors' own Lean function (tested against real Go, not proved from fmt's source: count such statements apart). THE CARD IS WHAT COUNTS. Prove the row's statement (the work); the ties are given (YtdlalhphephgeaaDoorTie.lean); close each card by the builder's one call (the guide's Derived/Test/ToyasCard.lean, 'card_holds'). Laid BY PROGRAM, IN A SANDBOX (cutbox-door.mjs). By AI agents, Wed Nov 11 2026. No macro, syntax, notation, axiom, sorry.
-/
import Derived.Test.YtdlalhphephgeaaDoorRows
import GoSem.ClaimSeven
namespace Go.Proofs.YtdlalhphephgeaaDoor
namespace Rows

/-- THE TIED CARD OF 'laws.FnExactListWords'. -/
def fnExactListWordsCard : Claim7 := { stood := { row := fnExactListWordsRow, standIns := [], harness := (true, "42178d329027114e309c63252a0e71149b2bee721ede0354f7a081c9aee874d4"), looks := false }, kinds := [], alts := [], laidByText := true, laidKinds := [.data], laidTests := true, laidLooks := .later }
def FnExactListWordsCardSaid : Prop := Claim7.holds Tryd.pinned (.plain (OpenSpec.ofChange fnExactListWordsSpec)) fnExactListWordsCard

/-- THE TIED CARD OF 'laws.FnListWords'. -/
def fnListWordsCard : Claim7 := { stood := { row := fnListWordsRow, standIns := [], harness := (true, "42178d329027114e309c63252a0e71149b2bee721ede0354f7a081c9aee874d4"), looks := false }, kinds := [], alts := [], laidByText := true, laidKinds := [.data], laidTests := true, laidLooks := .later }
def FnListWordsCardSaid : Prop := Claim7.holds Tryd.pinned (.plain (OpenSpec.ofChange fnListWordsSpec)) fnListWordsCard

/-- THE TIED CARD OF 'laws.FnExactFieldsOk'. -/
def fnExactFieldsOkCard : Claim7 := { stood := { row := fnExactFieldsOkRow, standIns := [], harness := (true, "42178d329027114e309c63252a0e71149b2bee721ede0354f7a081c9aee874d4"), looks := false }, kinds := [], alts := [], laidByText := true, laidKinds := [.data], laidTests := true, laidLooks := .later }
def FnExactFieldsOkCardSaid : Prop := Claim7.holds Tryd.pinned (.plain (OpenSpec.ofChange fnExactFieldsOkSpec)) fnExactFieldsOkCard

/-- THE SECOND FORM's CARD OF 'laws.FnExactListWords'. -/
def fnExactListWordsUptoCard : Claim7 := { stood := { row := fnExactListWordsUptoRow, standIns := [], harness := (true, "42178d329027114e309c63252a0e71149b2bee721ede0354f7a081c9aee874d4"), looks := false }, kinds := [], alts := [], laidByText := true, laidKinds := [.data], laidTests := true, laidLooks := .later }
def FnExactListWordsUptoCardSaid : Prop := Claim7.holds Tryd.pinned (.plain (OpenSpec.upto fnExactListWordsSpec)) fnExactListWordsUptoCard

/-- THE SECOND FORM's CARD OF 'laws.FnListWords'. -/
def fnListWordsUptoCard : Claim7 := { stood := { row := fnListWordsUptoRow, standIns := [], harness := (true, "42178d329027114e309c63252a0e71149b2bee721ede0354f7a081c9aee874d4"), looks := false }, kinds := [], alts := [], laidByText := true, laidKinds := [.data], laidTests := true, laidLooks := .later }
def FnListWordsUptoCardSaid : Prop := Claim7.holds Tryd.pinned (.plain (OpenSpec.upto fnListWordsSpec)) fnListWordsUptoCard

/-- THE SECOND FORM's CARD OF 'laws.FnExactFieldsOk'. -/
def fnExactFieldsOkUptoCard : Claim7 := { stood := { row := fnExactFieldsOkUptoRow, standIns := [], harness := (true, "42178d329027114e309c63252a0e71149b2bee721ede0354f7a081c9aee874d4"), looks := false }, kinds := [], alts := [], laidByText := true, laidKinds := [.data], laidTests := true, laidLooks := .later }
def FnExactFieldsOkUptoCardSaid : Prop := Claim7.holds Tryd.pinned (.plain (OpenSpec.upto fnExactFieldsOkSpec)) fnExactFieldsOkUptoCard
end Rows
end Go.Proofs.YtdlalhphephgeaaDoor
