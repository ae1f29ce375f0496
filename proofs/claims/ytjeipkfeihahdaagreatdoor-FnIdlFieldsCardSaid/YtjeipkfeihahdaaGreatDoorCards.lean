/-
  DERIVED. GIVEN WITH THE SEED: THE CARDS: each row of YtjeipkfeihahdaaGreatDoorRows.lean that lists a variable, with what it lists TIED to the program's text (the seventh form; the later family's looks); each row that meets fmt, with fmt's text TOLD by the authors' own Lean function (tested against real Go, not proved from fmt's source: count such statements apart). THE CARD IS WHAT COUNTS. Prove the row's statement (the work); the ties are given (YtjeipkfeihahdaaGreatDoorTie.lean); close each card by the builder's one call (the guide's Derived/Test/ToyasCard.lean, 'card_holds'). Laid BY PROGRAM, IN A SANDBOX (cutbox-door.mjs). By AI agents, Wed Nov 11 2026. No macro, syntax, notation, axiom, sorry.
-/
import Derived.Test.YtjeipkfeihahdaaGreatDoorRows
import GoSem.ClaimSeven
namespace Go.Proofs.YtjeipkfeihahdaaGreatDoor
namespace Rows

/-- THE TIED CARD OF 'laws.FnIdlLayout'. -/
def fnIdlLayoutCard : Claim7 := { stood := { row := fnIdlLayoutRow, standIns := [], harness := (true, "8dd0b040ec5a5764e30a7c030233bccf4f8a5d5ede0329548e222897fa649569"), looks := false }, kinds := [], alts := [], laidByText := true, laidKinds := [.data, .mapped], laidTests := true, laidLooks := .later }
def FnIdlLayoutCardSaid : Prop := Claim7.holds Tryz.pinned (.plain (OpenSpec.ofChange fnIdlLayoutSpec)) fnIdlLayoutCard

/-- THE TIED CARD OF 'laws.FnIdlFields'. -/
def fnIdlFieldsCard : Claim7 := { stood := { row := fnIdlFieldsRow, standIns := [], harness := (true, "8dd0b040ec5a5764e30a7c030233bccf4f8a5d5ede0329548e222897fa649569"), looks := false }, kinds := [], alts := [], laidByText := true, laidKinds := [.data, .mapped], laidTests := true, laidLooks := .later }
def FnIdlFieldsCardSaid : Prop := Claim7.holds Tryz.pinned (.plain (OpenSpec.ofChange fnIdlFieldsSpec)) fnIdlFieldsCard

/-- THE SECOND FORM's CARD OF 'laws.FnIdlLayout'. -/
def fnIdlLayoutUptoCard : Claim7 := { stood := { row := fnIdlLayoutUptoRow, standIns := [], harness := (true, "8dd0b040ec5a5764e30a7c030233bccf4f8a5d5ede0329548e222897fa649569"), looks := false }, kinds := [], alts := [], laidByText := true, laidKinds := [.data, .mapped], laidTests := true, laidLooks := .later }
def FnIdlLayoutUptoCardSaid : Prop := Claim7.holds Tryz.pinned (.plain (OpenSpec.upto fnIdlLayoutSpec)) fnIdlLayoutUptoCard

/-- THE SECOND FORM's CARD OF 'laws.FnIdlFields'. -/
def fnIdlFieldsUptoCard : Claim7 := { stood := { row := fnIdlFieldsUptoRow, standIns := [], harness := (true, "8dd0b040ec5a5764e30a7c030233bccf4f8a5d5ede0329548e222897fa649569"), looks := false }, kinds := [], alts := [], laidByText := true, laidKinds := [.data, .mapped], laidTests := true, laidLooks := .later }
def FnIdlFieldsUptoCardSaid : Prop := Claim7.holds Tryz.pinned (.plain (OpenSpec.upto fnIdlFieldsSpec)) fnIdlFieldsUptoCard
end Rows
end Go.Proofs.YtjeipkfeihahdaaGreatDoor
