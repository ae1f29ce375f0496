/-
  DERIVED. GIVEN WITH THE SEED: THE CARDS: each row of YtjeipkfeihahdaaDoorRows.lean that lists a variable, with what it lists TIED to the program's text (the seventh form; the later family's looks); each row that meets fmt, with fmt's text TOLD by the authors' own Lean function (tested against real Go, not proved from fmt's source: count such statements apart). THE CARD IS WHAT COUNTS. Prove the row's statement (the work); the ties are given (YtjeipkfeihahdaaDoorTie.lean); close each card by the builder's one call (the guide's Derived/Test/ToyasCard.lean, 'card_holds'). Laid BY PROGRAM, IN A SANDBOX (cutbox-door.mjs). By AI agents, Wed Nov 11 2026. No macro, syntax, notation, axiom, sorry.
-/
import Derived.Test.YtjeipkfeihahdaaDoorRows
import GoSem.ClaimSeven
namespace Go.Proofs.YtjeipkfeihahdaaDoor
namespace Rows

/-- THE TIED CARD OF 'laws.FnIdlCheck'. -/
def fnIdlCheckCard : Claim7 := { stood := { row := fnIdlCheckRow, standIns := [], harness := (true, "f15003af8a9360aba44ea3b03bcfc2a33bb3977f906141b23ad016b164e6b3c0"), looks := false }, kinds := [], alts := [], laidByText := true, laidKinds := [.data, .mapped], laidTests := true, laidLooks := .later }
def FnIdlCheckCardSaid : Prop := Claim7.holds Tryd.pinned (.plain (OpenSpec.ofChange fnIdlCheckSpec)) fnIdlCheckCard

/-- THE SECOND FORM's CARD OF 'laws.FnIdlCheck'. -/
def fnIdlCheckUptoCard : Claim7 := { stood := { row := fnIdlCheckUptoRow, standIns := [], harness := (true, "f15003af8a9360aba44ea3b03bcfc2a33bb3977f906141b23ad016b164e6b3c0"), looks := false }, kinds := [], alts := [], laidByText := true, laidKinds := [.data, .mapped], laidTests := true, laidLooks := .later }
def FnIdlCheckUptoCardSaid : Prop := Claim7.holds Tryd.pinned (.plain (OpenSpec.upto fnIdlCheckSpec)) fnIdlCheckUptoCard
end Rows
end Go.Proofs.YtjeipkfeihahdaaDoor
